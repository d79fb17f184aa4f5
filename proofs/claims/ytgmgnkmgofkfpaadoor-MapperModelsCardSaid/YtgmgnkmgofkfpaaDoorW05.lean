/- Contracts of functions of this seat, each out of a walk through its code, and plain facts on what they compute. Conditions: those that each theorem names. -/
import Derived.Test.YtgmgnkmgofkfpaaDoorW04
set_option linter.unusedSimpArgs false
set_option linter.unusedVariables false
namespace Go.Proofs.YtgmgnkmgofkfpaaDoor
open Go Go.AV
open Nat renaming reduceEqDiff → G, reduceAdd → E, reduceLeDiff → J, reduceLT → V, reduceMul → M, reduceSub → U
open List renaming set_cons_zero → aA, set_cons_succ → az
set_option maxRecDepth 100000 in
theorem rd (p : Mpr) (k : Nat) (hk : k < p.nx.length) (hs : p.sy.length = p.nx.length) (h1 : p.inp ≤ 64) : ch Tryd.prog 33 [p.av, .one (.int .i64 (k : Int))] (.one (.int .i64 (fA p k))) := by
 refine bp Tryd.func33 rfl (by kernel_rfl) (Nat.le_of_ble_eq_true rfl) rfl fun C hP hN hB => ?_
 replace hN : C.N = 79 := hN
 simp only [a8, E]
 refine aa fun K1 hK1 => ?_
 refine aj hP hN rfl ?_
 iterate 2 (refine ad rfl fun K0 Y => ?_; simp only [zE, op1, ev, lkp, ah, ag, cA, au, reduceCtorEq, G, E, J, V, M, U, Tryd.st24, Tryd.td24, Tryd.td3, Mpr.av, Int.toNat_natCast]; (repeat refine And.intro (by first | omega | assumption | exact rfl) ?_); refine Y _ ?_; clear Y K0; simp only [put, app, a9, af, zE, zS, E])
 refine ai ?_
 refine hK1 _ ?_; clear hK1; refine ae [0, 1, 2, 4] ?_; simp only [Z, lkp, zE, reduceCtorEq, G, a8, E]
 refine aa fun K2 hK2 => ?_
 refine aa fun K3 hK3 => ?_
 refine bW hP hN Tryd.mixed rfl ?_
 iterate 9 (refine ad rfl fun K0 Y => ?_; simp only [zE, op1, ev, lkp, ah, ag, am, ay, Nat.mul_one, aw, ax, acs, Ty.dflt, zG, aq, aI, Ty.size, ne_eq, not_false_eq_true, Int.natCast_one, Int.mul_one, aF, bu, bh, ba, bb, bq, Nat.div_one, aK, bf, aL, dite_true, aC, aD, aE, ao, aB, aR, reduceCtorEq, G, E, J, V, M, U, Tryd.el22, Tryd.el25, Tryd.st24, Tryd.td22, Tryd.td24, Tryd.td25, Tryd.td3, Tryd.td4, Mpr.av, Int.toNat_natCast]; (repeat refine And.intro (by first | omega | assumption | exact rfl) ?_); (first | refine Y _ ?_ | refine Or.inl (Y _ ?_)); clear Y K0; simp only [put, app, a9, af, zE, zS, E])
 (refine ad rfl fun K0 Y => ?_; simp only [zE, op1, ev, lkp, ah, ag, ev, reduceCtorEq, G, E, J, V, M, U, Tryd.td4, Mpr.av, Int.toNat_natCast]; refine Y _ ?_; clear Y K0; simp only [put, app, a9, af, zE, zS, E])
 refine' aY (want := false) 9 rfl (m := 15) (by simp only [Z, lkp, zE, reduceCtorEq, G, a8, E]; exact rfl) (by kernel_rfl) rfl rfl rfl rfl rfl (fun hg4 => ?a4) ?b4 ?c4
 case a4 =>
  have hq4 := hg4; (try simp only [zB, reduceCtorEq] at hg4); simp only [List.take_succ_cons, List.take_zero, List.cons_append, List.nil_append]
  (refine ar rfl fun K0 Y => ?_; simp only [zE, op1, ev, lkp, ah, ag, am, reduceCtorEq, G, E, J, V, M, U, Tryd.st24, Tryd.td24, Tryd.td4, Mpr.av, Int.toNat_natCast]; (repeat refine And.intro (by first | omega | assumption | exact rfl) ?_); refine Y _ ?_; clear Y K0; simp only [put, app, a9, af, zE, zS, E])
  (refine ar rfl fun K0 Y => ?_; simp only [zE, op1, ev, lkp, ah, ag, ay, Nat.mul_one, aw, ax, acs, Ty.dflt, zG, aq, reduceCtorEq, G, E, J, V, M, U, Tryd.el22, Tryd.td22, Mpr.av, Int.toNat_natCast]; (repeat refine And.intro (by first | omega | assumption | exact rfl) ?_); refine Y _ ?_; clear Y K0; simp only [put, app, a9, af, zE, zS, E])
  (refine ar rfl fun K0 Y => ?_; simp only [zE, op1, ev, lkp, ah, ag, ev, reduceCtorEq, G, E, J, V, M, U, Tryd.td3, Mpr.av, Int.toNat_natCast]; refine Y _ ?_; clear Y K0; simp only [put, app, a9, af, zE, zS, E])
  (refine ar rfl fun K0 Y => ?_; simp only [zE, op1, ev, lkp, ah, ag, aI, zG, Ty.dflt, Ty.size, Nat.mul_one, ne_eq, not_false_eq_true, Int.natCast_one, Int.mul_one, reduceCtorEq, G, E, J, V, M, U, Tryd.el22, Tryd.td22, Mpr.av, Int.toNat_natCast]; (repeat refine And.intro (by first | omega | assumption | exact rfl) ?_); refine Y _ ?_; clear Y K0; simp only [put, app, a9, af, zE, zS, E])
  (refine ar rfl fun K0 Y => ?_; simp only [zE, op1, ev, lkp, ah, ag, ay, Nat.mul_one, aw, ax, acs, Ty.dflt, zG, aq, reduceCtorEq, G, E, J, V, M, U, Tryd.el25, Tryd.td25, Mpr.av, Int.toNat_natCast]; (repeat refine And.intro (by first | omega | assumption | exact rfl) ?_); refine Y _ ?_; clear Y K0; simp only [put, app, a9, af, zE, zS, E])
  (refine ar rfl fun K0 Y => ?_; simp only [zE, op1, ev, lkp, ah, ag, aF, bu, bh, ba, bb, bq, Nat.div_one, aK, bf, Ty.size, aL, dite_true, reduceCtorEq, G, E, J, V, M, U, Tryd.el25, Tryd.td25, Tryd.td3, Mpr.av, Int.toNat_natCast]; (repeat refine And.intro (by first | omega | assumption | exact rfl) ?_); (first | refine Y _ ?_ | refine Or.inl (Y _ ?_)); clear Y K0; simp only [put, app, a9, af, zE, zS, E])
  (refine ar rfl fun K0 Y => ?_; simp only [zE, op1, ev, lkp, ah, ag, am, reduceCtorEq, G, E, J, V, M, U, Tryd.st24, Tryd.td24, Mpr.av, Int.toNat_natCast]; (repeat refine And.intro (by first | omega | assumption | exact rfl) ?_); refine Y _ ?_; clear Y K0; simp only [put, app, a9, af, zE, zS, E])
  (refine ar rfl fun K0 Y => ?_; simp only [zE, op1, ev, lkp, ah, ag, ay, Nat.mul_one, aw, ax, acs, Ty.dflt, zG, aq, reduceCtorEq, G, E, J, V, M, U, Tryd.td3, Mpr.av, Int.toNat_natCast]; (repeat refine And.intro (by first | omega | assumption | exact rfl) ?_); refine Y _ ?_; clear Y K0; simp only [put, app, a9, af, zE, zS, E])
  (refine ar rfl fun K0 Y => ?_; simp only [zE, op1, ev, lkp, ah, ag, aC, aD, aE, ao, aB, aR, reduceCtorEq, G, E, J, V, M, U, Tryd.td3, Tryd.td4, Mpr.av, Int.toNat_natCast]; (repeat refine And.intro (by first | omega | assumption | exact rfl) ?_); refine Y _ ?_; clear Y K0; simp only [put, app, a9, af, zE, zS, E])
  (refine ad rfl fun K0 Y => ?_; simp only [zE, op1, ev, lkp, ah, ag, bt, reduceCtorEq, G, E, J, V, M, U, Tryd.td4, Mpr.av, Int.toNat_natCast]; refine Y _ ?_; clear Y K0; simp only [put, app, a9, af, zE, zS, E])
  refine ai ?_
  refine ⟨by simp only [Z, lkp, zE, reduceCtorEq, G, a8, E]; exact rfl, rfl, ?_, rfl⟩; (repeat refine aZ rfl ?_); exact bz (by exact rfl) hq4
 case b4 => exact bv (by first | rfl | (simp [bV]; done) | decide)
 simp only [bj, bg]
 refine ai ?_
 refine ⟨by kernel_rfl, ?_⟩
 refine hK3 _ ?_; clear hK3; refine ae [0, 1, 2, 4, 25] ?_; simp only [Z, lkp, zE, reduceCtorEq, G, a8, E]
 refine aG (by simp only [ev, Z, lkp, zE, reduceCtorEq, G, a8, E]; exact rfl) (fun hc5 => ?_) (fun hc5 => ?_)
 ·(try simp only [zB, reduceCtorEq] at hc5)
  have hl9 : ¬ ((p.nx.getD k []).length : Int) = p.inp ∨ ¬ ((p.sy.getD k []).length : Int) = p.inp := by omega
  refine aa fun K6 hK6 => ?_
  refine aj hP hN rfl ?_
  (refine ad rfl fun K0 Y => ?_; simp only [zE, op1, ev, lkp, ah, ag, ev, reduceCtorEq, G, E, J, V, M, U, Tryd.td3, Mpr.av, Int.toNat_natCast]; refine Y _ ?_; clear Y K0; simp only [put, app, a9, af, zE, zS, E])
  refine ai ?_
  refine hK6 _ ?_; clear hK6; refine ae [0, 1, 2, 4, 25] ?_; simp only [Z, lkp, zE, reduceCtorEq, G, a8, E]
  refine aP ?_
  refine ⟨by first | exact .inl rfl | exact .inr rfl, _, rfl, ?_⟩; simp only [fzV, fz1, fzC, List.map_cons, List.map_nil, Z, lkp, zE, reduceCtorEq, G, a8, E, Mpr.av, Int.toNat_natCast]
  refine VLE.of_eq ?_
  refine congrArg (fun n => AV.one (AC.int IntKind.i64 n)) ?_
  symm
  first
  | exact cb hl9
  | exact ca hl9 (by omega) hb9
  | exact j7 hl9 fun q hq2 => hq q (by omega)
 ·(try simp only [zB, reduceCtorEq] at hc5)
  have hl9 : ((p.nx.getD k []).length : Int) = p.inp ∧ ((p.sy.getD k []).length : Int) = p.inp := by omega
  refine aJ ?_
  refine hK2 _ ?_; clear hK2; refine ae [0, 1, 2, 4, 25] ?_; simp only [Z, lkp, zE, reduceCtorEq, G, a8, E]
  refine aa fun K7 hK7 => ?_
  refine aa fun K8 hK8 => ?_
  refine aj hP hN rfl ?_
  (refine ad rfl fun K0 Y => ?_; simp only [zE, op1, ev, lkp, ah, ag, ev, reduceCtorEq, G, E, J, V, M, U, Tryd.td3, Mpr.av, Int.toNat_natCast]; refine Y _ ?_; clear Y K0; simp only [put, app, a9, af, zE, zS, E])
  refine ai ?_
  refine hK8 _ ?_; clear hK8; refine ae [0, 1, 2, 4, 5, 25] ?_; simp only [Z, lkp, zE, reduceCtorEq, G, a8, E]
  refine aW ?_
  refine bM (fun n9 s9 => ∃ (c : Nat), ((c : Int) ≤ p.inp) ∧ (∀ q, q < c → ¬ p.bad k q) ∧ n9 = p.inp.toNat - c ∧ s9 = { env := [(1, .one (.int .i64 (k : Int))), (2, .one (.ptr 0 0 0 0)), (4, .one (.int .i64 0)), (5, .one (.int .i64 (c : Int)))], L := [.vars 24 [.int .i64 p.inp, .int .i64 p.ab, .int .i64 p.st, .list (.list (.int .i64)) p.nx, .list (.list (.int .i64)) p.sy]] }) ?_ ?_
  ·exact ⟨_, _, aS [1, 2, 4, 5], 0, by omega, fun q hq => by omega, rfl, rfl⟩
  ·rintro n9 s9 ⟨c, hc, hq, rfl, rfl⟩
   refine aa fun K10 hK10 => ?_
   refine aa fun K11 hK11 => ?_
   have hpi : (0 : Int) ≤ p.inp := by omega
   refine aj hP hN rfl ?_
   iterate 4 (refine ad rfl fun K0 Y => ?_; simp only [zE, op1, ev, lkp, ah, ag, am, ay, Nat.mul_one, aw, ax, acs, Ty.dflt, zG, aq, aC, aD, aE, ao, aB, aR, reduceCtorEq, G, E, J, V, M, U, Tryd.st24, Tryd.td24, Tryd.td3, Tryd.td4, Mpr.av, Int.toNat_natCast]; (repeat refine And.intro (by first | omega | assumption | exact rfl) ?_); refine Y _ ?_; clear Y K0; simp only [put, app, a9, af, zE, zS, E])
   refine ai ?_
   refine hK11 _ ?_; clear hK11; refine ae [1, 2, 4, 5, 29] ?_; simp only [Z, lkp, zE, reduceCtorEq, G, a8, E]
   refine aG (by simp only [ev, Z, lkp, zE, reduceCtorEq, G, a8, E]; exact rfl) (fun hc12 => ?_) (fun hc12 => ?_)
   ·(try simp only [zB, reduceCtorEq] at hc12)
    refine aJ ?_
    refine hK10 _ ?_; clear hK10; refine ae [1, 2, 4, 5, 29] ?_; simp only [Z, lkp, zE, reduceCtorEq, G, a8, E]
    refine aa fun K13 hK13 => ?_
    refine aW ?_
    refine aa fun K14 hK14 => ?_
    refine bW hP hN Tryd.mixed rfl ?_
    iterate 9 (refine ad rfl fun K0 Y => ?_; simp only [zE, op1, ev, lkp, ah, ag, am, ay, Nat.mul_one, aw, ax, acs, Ty.dflt, zG, aq, aI, Ty.size, ne_eq, not_false_eq_true, Int.natCast_one, Int.mul_one, aC, aD, aE, ao, aB, aR, reduceCtorEq, G, E, J, V, M, U, Tryd.el22, Tryd.el25, Tryd.st24, Tryd.td22, Tryd.td24, Tryd.td25, Tryd.td3, Tryd.td4, Mpr.av, Int.toNat_natCast]; (repeat refine And.intro (by first | omega | assumption | exact rfl) ?_); refine Y _ ?_; clear Y K0; simp only [put, app, a9, af, zE, zS, E])
    (refine ad rfl fun K0 Y => ?_; simp only [zE, op1, ev, lkp, ah, ag, ev, reduceCtorEq, G, E, J, V, M, U, Tryd.td4, Mpr.av, Int.toNat_natCast]; refine Y _ ?_; clear Y K0; simp only [put, app, a9, af, zE, zS, E])
    refine' aY (want := false) 12 rfl (m := 41) (by simp only [Z, lkp, zE, reduceCtorEq, G, a8, E]; exact rfl) (by kernel_rfl) rfl rfl rfl rfl rfl (fun hg15 => ?a15) ?b15 ?c15
    case a15 =>
     have hq15 := hg15; (try simp only [zB, reduceCtorEq] at hg15); simp only [List.take_succ_cons, List.take_zero, List.cons_append, List.nil_append]
     (refine ar rfl fun K0 Y => ?_; simp only [zE, op1, ev, lkp, ah, ag, am, reduceCtorEq, G, E, J, V, M, U, Tryd.st24, Tryd.td24, Tryd.td3, Mpr.av, Int.toNat_natCast]; (repeat refine And.intro (by first | omega | assumption | exact rfl) ?_); refine Y _ ?_; clear Y K0; simp only [put, app, a9, af, zE, zS, E])
     (refine ar rfl fun K0 Y => ?_; simp only [zE, op1, ev, lkp, ah, ag, ay, Nat.mul_one, aw, ax, acs, Ty.dflt, zG, aq, reduceCtorEq, G, E, J, V, M, U, Tryd.el22, Tryd.td22, Mpr.av, Int.toNat_natCast]; (repeat refine And.intro (by first | omega | assumption | exact rfl) ?_); refine Y _ ?_; clear Y K0; simp only [put, app, a9, af, zE, zS, E])
     (refine ar rfl fun K0 Y => ?_; simp only [zE, op1, ev, lkp, ah, ag, ev, reduceCtorEq, G, E, J, V, M, U, Tryd.td3, Mpr.av, Int.toNat_natCast]; refine Y _ ?_; clear Y K0; simp only [put, app, a9, af, zE, zS, E])
     (refine ar rfl fun K0 Y => ?_; simp only [zE, op1, ev, lkp, ah, ag, aI, zG, Ty.dflt, Ty.size, Nat.mul_one, ne_eq, not_false_eq_true, Int.natCast_one, Int.mul_one, reduceCtorEq, G, E, J, V, M, U, Tryd.el22, Tryd.td22, Mpr.av, Int.toNat_natCast]; (repeat refine And.intro (by first | omega | assumption | exact rfl) ?_); refine Y _ ?_; clear Y K0; simp only [put, app, a9, af, zE, zS, E])
     (refine ar rfl fun K0 Y => ?_; simp only [zE, op1, ev, lkp, ah, ag, ay, Nat.mul_one, aw, ax, acs, Ty.dflt, zG, aq, reduceCtorEq, G, E, J, V, M, U, Tryd.el25, Tryd.td25, Mpr.av, Int.toNat_natCast]; (repeat refine And.intro (by first | omega | assumption | exact rfl) ?_); refine Y _ ?_; clear Y K0; simp only [put, app, a9, af, zE, zS, E])
     (refine ar rfl fun K0 Y => ?_; simp only [zE, op1, ev, lkp, ah, ag, ev, reduceCtorEq, G, E, J, V, M, U, Tryd.td3, Mpr.av, Int.toNat_natCast]; refine Y _ ?_; clear Y K0; simp only [put, app, a9, af, zE, zS, E])
     (refine ar rfl fun K0 Y => ?_; simp only [zE, op1, ev, lkp, ah, ag, aI, zG, Ty.dflt, Ty.size, Nat.mul_one, ne_eq, not_false_eq_true, Int.natCast_one, Int.mul_one, reduceCtorEq, G, E, J, V, M, U, Tryd.el25, Tryd.td25, Mpr.av, Int.toNat_natCast]; (repeat refine And.intro (by first | omega | assumption | exact rfl) ?_); refine Y _ ?_; clear Y K0; simp only [put, app, a9, af, zE, zS, E])
     (refine ar rfl fun K0 Y => ?_; simp only [zE, op1, ev, lkp, ah, ag, ay, Nat.mul_one, aw, ax, acs, Ty.dflt, zG, aq, reduceCtorEq, G, E, J, V, M, U, Tryd.td3, Mpr.av, Int.toNat_natCast]; (repeat refine And.intro (by first | omega | assumption | exact rfl) ?_); refine Y _ ?_; clear Y K0; simp only [put, app, a9, af, zE, zS, E])
     (refine ar rfl fun K0 Y => ?_; simp only [zE, op1, ev, lkp, ah, ag, am, reduceCtorEq, G, E, J, V, M, U, Tryd.st24, Tryd.td24, Tryd.td3, Mpr.av, Int.toNat_natCast]; (repeat refine And.intro (by first | omega | assumption | exact rfl) ?_); refine Y _ ?_; clear Y K0; simp only [put, app, a9, af, zE, zS, E])
     (refine ar rfl fun K0 Y => ?_; simp only [zE, op1, ev, lkp, ah, ag, ay, Nat.mul_one, aw, ax, acs, Ty.dflt, zG, aq, reduceCtorEq, G, E, J, V, M, U, Tryd.el22, Tryd.td22, Mpr.av, Int.toNat_natCast]; (repeat refine And.intro (by first | omega | assumption | exact rfl) ?_); refine Y _ ?_; clear Y K0; simp only [put, app, a9, af, zE, zS, E])
     (refine ar rfl fun K0 Y => ?_; simp only [zE, op1, ev, lkp, ah, ag, aF, bu, bh, ba, bb, bq, Nat.div_one, aK, bf, Ty.size, aL, dite_true, reduceCtorEq, G, E, J, V, M, U, Tryd.el22, Tryd.td22, Tryd.td3, Mpr.av, Int.toNat_natCast]; (repeat refine And.intro (by first | omega | assumption | exact rfl) ?_); (first | refine Y _ ?_ | refine Or.inl (Y _ ?_)); clear Y K0; simp only [put, app, a9, af, zE, zS, E])
     (refine ar rfl fun K0 Y => ?_; simp only [zE, op1, ev, lkp, ah, ag, aC, aD, aE, ao, aB, aR, reduceCtorEq, G, E, J, V, M, U, Tryd.td3, Tryd.td4, Mpr.av, Int.toNat_natCast]; (repeat refine And.intro (by first | omega | assumption | exact rfl) ?_); refine Y _ ?_; clear Y K0; simp only [put, app, a9, af, zE, zS, E])
     (refine ad rfl fun K0 Y => ?_; simp only [zE, op1, ev, lkp, ah, ag, bt, reduceCtorEq, G, E, J, V, M, U, Tryd.td4, Mpr.av, Int.toNat_natCast]; refine Y _ ?_; clear Y K0; simp only [put, app, a9, af, zE, zS, E])
     refine ai ?_
     refine ⟨by simp only [Z, lkp, zE, reduceCtorEq, G, a8, E]; exact rfl, rfl, ?_, rfl⟩; (repeat refine aZ rfl ?_); exact bz (by exact rfl) hq15
    case b15 => exact bv (by first | rfl | (simp [bV]; done) | decide)
    simp only [bj, bg]
    (refine ad rfl fun K0 Y => ?_; simp only [zE, op1, ev, lkp, ah, ag, ev, reduceCtorEq, G, E, J, V, M, U, Tryd.td4, Mpr.av, Int.toNat_natCast]; refine Y _ ?_; clear Y K0; simp only [put, app, a9, af, zE, zS, E])
    refine' aY (want := false) 9 rfl (m := 55) (by simp only [Z, lkp, zE, reduceCtorEq, G, a8, E]; exact rfl) (by kernel_rfl) rfl rfl rfl rfl rfl (fun hg16 => ?a16) ?b16 ?c16
    case a16 =>
     have hq16 := hg16; (try simp only [zB, reduceCtorEq] at hg16); simp only [List.take_succ_cons, List.take_zero, List.cons_append, List.nil_append]
     (refine ar rfl fun K0 Y => ?_; simp only [zE, op1, ev, lkp, ah, ag, am, reduceCtorEq, G, E, J, V, M, U, Tryd.st24, Tryd.td24, Tryd.td4, Mpr.av, Int.toNat_natCast]; (repeat refine And.intro (by first | omega | assumption | exact rfl) ?_); refine Y _ ?_; clear Y K0; simp only [put, app, a9, af, zE, zS, E])
     (refine ar rfl fun K0 Y => ?_; simp only [zE, op1, ev, lkp, ah, ag, ay, Nat.mul_one, aw, ax, acs, Ty.dflt, zG, aq, reduceCtorEq, G, E, J, V, M, U, Tryd.el22, Tryd.td22, Mpr.av, Int.toNat_natCast]; (repeat refine And.intro (by first | omega | assumption | exact rfl) ?_); refine Y _ ?_; clear Y K0; simp only [put, app, a9, af, zE, zS, E])
     (refine ar rfl fun K0 Y => ?_; simp only [zE, op1, ev, lkp, ah, ag, ev, reduceCtorEq, G, E, J, V, M, U, Tryd.td3, Mpr.av, Int.toNat_natCast]; refine Y _ ?_; clear Y K0; simp only [put, app, a9, af, zE, zS, E])
     (refine ar rfl fun K0 Y => ?_; simp only [zE, op1, ev, lkp, ah, ag, aI, zG, Ty.dflt, Ty.size, Nat.mul_one, ne_eq, not_false_eq_true, Int.natCast_one, Int.mul_one, reduceCtorEq, G, E, J, V, M, U, Tryd.el22, Tryd.td22, Mpr.av, Int.toNat_natCast]; (repeat refine And.intro (by first | omega | assumption | exact rfl) ?_); refine Y _ ?_; clear Y K0; simp only [put, app, a9, af, zE, zS, E])
     (refine ar rfl fun K0 Y => ?_; simp only [zE, op1, ev, lkp, ah, ag, ay, Nat.mul_one, aw, ax, acs, Ty.dflt, zG, aq, reduceCtorEq, G, E, J, V, M, U, Tryd.el25, Tryd.td25, Mpr.av, Int.toNat_natCast]; (repeat refine And.intro (by first | omega | assumption | exact rfl) ?_); refine Y _ ?_; clear Y K0; simp only [put, app, a9, af, zE, zS, E])
     (refine ar rfl fun K0 Y => ?_; simp only [zE, op1, ev, lkp, ah, ag, ev, reduceCtorEq, G, E, J, V, M, U, Tryd.td3, Mpr.av, Int.toNat_natCast]; refine Y _ ?_; clear Y K0; simp only [put, app, a9, af, zE, zS, E])
     (refine ar rfl fun K0 Y => ?_; simp only [zE, op1, ev, lkp, ah, ag, aI, zG, Ty.dflt, Ty.size, Nat.mul_one, ne_eq, not_false_eq_true, Int.natCast_one, Int.mul_one, reduceCtorEq, G, E, J, V, M, U, Tryd.el25, Tryd.td25, Mpr.av, Int.toNat_natCast]; (repeat refine And.intro (by first | omega | assumption | exact rfl) ?_); refine Y _ ?_; clear Y K0; simp only [put, app, a9, af, zE, zS, E])
     (refine ar rfl fun K0 Y => ?_; simp only [zE, op1, ev, lkp, ah, ag, ay, Nat.mul_one, aw, ax, acs, Ty.dflt, zG, aq, reduceCtorEq, G, E, J, V, M, U, Tryd.td3, Mpr.av, Int.toNat_natCast]; (repeat refine And.intro (by first | omega | assumption | exact rfl) ?_); refine Y _ ?_; clear Y K0; simp only [put, app, a9, af, zE, zS, E])
     (refine ar rfl fun K0 Y => ?_; simp only [zE, op1, ev, lkp, ah, ag, aC, aD, aE, ao, aB, aR, reduceCtorEq, G, E, J, V, M, U, Tryd.td3, Tryd.td4, Mpr.av, Int.toNat_natCast]; (repeat refine And.intro (by first | omega | assumption | exact rfl) ?_); refine Y _ ?_; clear Y K0; simp only [put, app, a9, af, zE, zS, E])
     (refine ad rfl fun K0 Y => ?_; simp only [zE, op1, ev, lkp, ah, ag, bt, reduceCtorEq, G, E, J, V, M, U, Tryd.td4, Mpr.av, Int.toNat_natCast]; refine Y _ ?_; clear Y K0; simp only [put, app, a9, af, zE, zS, E])
     refine ai ?_
     refine ⟨by simp only [Z, lkp, zE, reduceCtorEq, G, a8, E]; exact rfl, rfl, ?_, rfl⟩; (repeat refine aZ rfl ?_); exact bz (by exact rfl) hq16
    case b16 => exact bv (by first | rfl | (simp [bV]; done) | decide)
    simp only [bj, bg]
    (refine ad rfl fun K0 Y => ?_; simp only [zE, op1, ev, lkp, ah, ag, ev, reduceCtorEq, G, E, J, V, M, U, Tryd.td4, Mpr.av, Int.toNat_natCast]; refine Y _ ?_; clear Y K0; simp only [put, app, a9, af, zE, zS, E])
    refine' aY (want := false) 11 rfl (m := 66) (by simp only [Z, lkp, zE, reduceCtorEq, G, a8, E]; exact rfl) (by kernel_rfl) rfl rfl rfl rfl rfl (fun hg17 => ?a17) ?b17 ?c17
    case a17 =>
     have hq17 := hg17; (try simp only [zB, reduceCtorEq] at hg17); simp only [List.take_succ_cons, List.take_zero, List.cons_append, List.nil_append]
     (refine ar rfl fun K0 Y => ?_; simp only [zE, op1, ev, lkp, ah, ag, am, reduceCtorEq, G, E, J, V, M, U, Tryd.st24, Tryd.td24, Tryd.td4, Mpr.av, Int.toNat_natCast]; (repeat refine And.intro (by first | omega | assumption | exact rfl) ?_); refine Y _ ?_; clear Y K0; simp only [put, app, a9, af, zE, zS, E])
     (refine ar rfl fun K0 Y => ?_; simp only [zE, op1, ev, lkp, ah, ag, ay, Nat.mul_one, aw, ax, acs, Ty.dflt, zG, aq, reduceCtorEq, G, E, J, V, M, U, Tryd.el22, Tryd.td22, Mpr.av, Int.toNat_natCast]; (repeat refine And.intro (by first | omega | assumption | exact rfl) ?_); refine Y _ ?_; clear Y K0; simp only [put, app, a9, af, zE, zS, E])
     (refine ar rfl fun K0 Y => ?_; simp only [zE, op1, ev, lkp, ah, ag, ev, reduceCtorEq, G, E, J, V, M, U, Tryd.td3, Mpr.av, Int.toNat_natCast]; refine Y _ ?_; clear Y K0; simp only [put, app, a9, af, zE, zS, E])
     (refine ar rfl fun K0 Y => ?_; simp only [zE, op1, ev, lkp, ah, ag, aI, zG, Ty.dflt, Ty.size, Nat.mul_one, ne_eq, not_false_eq_true, Int.natCast_one, Int.mul_one, reduceCtorEq, G, E, J, V, M, U, Tryd.el22, Tryd.td22, Mpr.av, Int.toNat_natCast]; (repeat refine And.intro (by first | omega | assumption | exact rfl) ?_); refine Y _ ?_; clear Y K0; simp only [put, app, a9, af, zE, zS, E])
     (refine ar rfl fun K0 Y => ?_; simp only [zE, op1, ev, lkp, ah, ag, ay, Nat.mul_one, aw, ax, acs, Ty.dflt, zG, aq, reduceCtorEq, G, E, J, V, M, U, Tryd.el25, Tryd.td25, Mpr.av, Int.toNat_natCast]; (repeat refine And.intro (by first | omega | assumption | exact rfl) ?_); refine Y _ ?_; clear Y K0; simp only [put, app, a9, af, zE, zS, E])
     (refine ar rfl fun K0 Y => ?_; simp only [zE, op1, ev, lkp, ah, ag, ev, reduceCtorEq, G, E, J, V, M, U, Tryd.td3, Mpr.av, Int.toNat_natCast]; refine Y _ ?_; clear Y K0; simp only [put, app, a9, af, zE, zS, E])
     (refine ar rfl fun K0 Y => ?_; simp only [zE, op1, ev, lkp, ah, ag, aI, zG, Ty.dflt, Ty.size, Nat.mul_one, ne_eq, not_false_eq_true, Int.natCast_one, Int.mul_one, reduceCtorEq, G, E, J, V, M, U, Tryd.el25, Tryd.td25, Mpr.av, Int.toNat_natCast]; (repeat refine And.intro (by first | omega | assumption | exact rfl) ?_); refine Y _ ?_; clear Y K0; simp only [put, app, a9, af, zE, zS, E])
     (refine ar rfl fun K0 Y => ?_; simp only [zE, op1, ev, lkp, ah, ag, ay, Nat.mul_one, aw, ax, acs, Ty.dflt, zG, aq, reduceCtorEq, G, E, J, V, M, U, Tryd.td3, Mpr.av, Int.toNat_natCast]; (repeat refine And.intro (by first | omega | assumption | exact rfl) ?_); refine Y _ ?_; clear Y K0; simp only [put, app, a9, af, zE, zS, E])
     (refine ar rfl fun K0 Y => ?_; simp only [zE, op1, ev, lkp, ah, ag, am, reduceCtorEq, G, E, J, V, M, U, Tryd.st24, Tryd.td1, Tryd.td24, Mpr.av, Int.toNat_natCast]; (repeat refine And.intro (by first | omega | assumption | exact rfl) ?_); refine Y _ ?_; clear Y K0; simp only [put, app, a9, af, zE, zS, E])
     (refine ar rfl fun K0 Y => ?_; simp only [zE, op1, ev, lkp, ah, ag, ay, Nat.mul_one, aw, ax, acs, Ty.dflt, zG, aq, reduceCtorEq, G, E, J, V, M, U, Tryd.td3, Mpr.av, Int.toNat_natCast]; (repeat refine And.intro (by first | omega | assumption | exact rfl) ?_); refine Y _ ?_; clear Y K0; simp only [put, app, a9, af, zE, zS, E])
     (refine ar rfl fun K0 Y => ?_; simp only [zE, op1, ev, lkp, ah, ag, aC, aD, aE, ao, aB, aR, reduceCtorEq, G, E, J, V, M, U, Tryd.td3, Tryd.td4, Mpr.av, Int.toNat_natCast]; (repeat refine And.intro (by first | omega | assumption | exact rfl) ?_); refine Y _ ?_; clear Y K0; simp only [put, app, a9, af, zE, zS, E])
     (refine ad rfl fun K0 Y => ?_; simp only [zE, op1, ev, lkp, ah, ag, bt, reduceCtorEq, G, E, J, V, M, U, Tryd.td4, Mpr.av, Int.toNat_natCast]; refine Y _ ?_; clear Y K0; simp only [put, app, a9, af, zE, zS, E])
     refine ai ?_
     refine ⟨by simp only [Z, lkp, zE, reduceCtorEq, G, a8, E]; exact rfl, rfl, ?_, rfl⟩; (repeat refine aZ rfl ?_); exact bz (by exact rfl) hq17
    case b17 => exact bv (by first | rfl | (simp [bV]; done) | decide)
    simp only [bj, bg]
    refine ai ?_
    refine ⟨by kernel_rfl, ?_⟩
    refine hK14 _ ?_; clear hK14; refine ae [1, 2, 4, 5, 29, 78] ?_; simp only [Z, lkp, zE, reduceCtorEq, G, a8, E]
    refine aG (by simp only [ev, Z, lkp, zE, reduceCtorEq, G, a8, E]; exact rfl) (fun hc18 => ?_) (fun hc18 => ?_)
    ·(try simp only [zB, reduceCtorEq] at hc18)
     have hb9 : p.bad k c := by unfold Mpr.bad; omega
     refine aa fun K19 hK19 => ?_
     refine aj hP hN rfl ?_
     (refine ad rfl fun K0 Y => ?_; simp only [zE, op1, ev, lkp, ah, ag, ev, reduceCtorEq, G, E, J, V, M, U, Tryd.td3, Mpr.av, Int.toNat_natCast]; refine Y _ ?_; clear Y K0; simp only [put, app, a9, af, zE, zS, E])
     refine ai ?_
     refine hK19 _ ?_; clear hK19; refine ae [1, 2, 4, 5, 29, 78] ?_; simp only [Z, lkp, zE, reduceCtorEq, G, a8, E]
     refine aP ?_
     refine ⟨by first | exact .inl rfl | exact .inr rfl, _, rfl, ?_⟩; simp only [fzV, fz1, fzC, List.map_cons, List.map_nil, Z, lkp, zE, reduceCtorEq, G, a8, E, Mpr.av, Int.toNat_natCast]
     refine VLE.of_eq ?_
     refine congrArg (fun n => AV.one (AC.int IntKind.i64 n)) ?_
     symm
     first
     | exact cb hl9
     | exact ca hl9 (by omega) hb9
     | exact j7 hl9 fun q hq2 => hq q (by omega)
    ·(try simp only [zB, reduceCtorEq] at hc18)
     have hb9 : ¬ p.bad k c := by unfold Mpr.bad; omega
     refine aJ ?_
     refine hK13 _ ?_; clear hK13; refine ae [1, 2, 4, 5, 29, 78] ?_; simp only [Z, lkp, zE, reduceCtorEq, G, a8, E]
     refine aj hP hN rfl ?_
     iterate 3 (refine ad rfl fun K0 Y => ?_; simp only [zE, op1, ev, lkp, ah, ag, aC, aD, aE, ao, aB, aR, reduceCtorEq, G, E, J, V, M, U, Tryd.td3, Mpr.av, Int.toNat_natCast]; (repeat refine And.intro (by first | omega | assumption | exact rfl) ?_); refine Y _ ?_; clear Y K0; simp only [put, app, a9, af, zE, zS, E])
     refine ai ?_
     refine ⟨_, _, ?_, aS [1, 2, 4, 5], c + 1, by omega, fun q hq2 => ?_, rfl, rfl⟩
     · omega
     · by_cases e : q = c
       · rw [e]; exact hb9
       · exact hq q (by omega)
   ·(try simp only [zB, reduceCtorEq] at hc12)
    refine bK ?_
    refine hK7 _ ?_; clear hK7; refine ae [1, 2, 4, 5, 29] ?_; simp only [Z, lkp, zE, reduceCtorEq, G, a8, E]
    refine aa fun K20 hK20 => ?_
    refine aj hP hN rfl ?_
    (refine ad rfl fun K0 Y => ?_; simp only [zE, op1, ev, lkp, ah, ag, ev, reduceCtorEq, G, E, J, V, M, U, Tryd.td3, Mpr.av, Int.toNat_natCast]; refine Y _ ?_; clear Y K0; simp only [put, app, a9, af, zE, zS, E])
    refine ai ?_
    refine hK20 _ ?_; clear hK20; refine ae [1, 2, 4, 5, 29] ?_; simp only [Z, lkp, zE, reduceCtorEq, G, a8, E]
    refine aP ?_
    refine ⟨by first | exact .inl rfl | exact .inr rfl, _, rfl, ?_⟩; simp only [fzV, fz1, fzC, List.map_cons, List.map_nil, Z, lkp, zE, reduceCtorEq, G, a8, E, Mpr.av, Int.toNat_natCast]
    refine VLE.of_eq ?_
    refine congrArg (fun n => AV.one (AC.int IntKind.i64 n)) ?_
    symm
    first
    | exact cb hl9
    | exact ca hl9 (by omega) hb9
    | exact j7 hl9 fun q hq2 => hq q (by omega)
end Go.Proofs.YtgmgnkmgofkfpaaDoor
namespace Go.Proofs.YtgmgnkmgofkfpaaDoor
open Go Go.AV
open Nat renaming reduceEqDiff → G, reduceAdd → E, reduceLeDiff → J, reduceLT → V, reduceMul → M, reduceSub → U
open List renaming set_cons_zero → aA, set_cons_succ → az
set_option maxRecDepth 100000 in
theorem nh (p : Mpr) : ch Tryd.prog 12 [p.av] (.one (.int .i64 (bQ p))) := by
 refine bp Tryd.func12 rfl (by kernel_rfl) (Nat.le_of_ble_eq_true rfl) rfl fun C hP hN hB => ?_
 replace hN : C.N = 62 := hN
 simp only [a8, E]
 refine aa fun K1 hK1 => ?_
 refine aj hP hN rfl ?_
 iterate 2 (refine ad rfl fun K0 Y => ?_; simp only [zE, op1, ev, lkp, ah, ag, cA, au, reduceCtorEq, G, E, J, V, M, U, Tryd.st24, Tryd.td24, Tryd.td3, Mpr.av]; (repeat refine And.intro (by first | omega | assumption | exact rfl) ?_); refine Y _ ?_; clear Y K0; simp only [put, app, a9, af, zE, zS, E])
 refine ai ?_
 refine hK1 _ ?_; clear hK1; refine ae [0, 1, 2] ?_; simp only [Z, lkp, zE, reduceCtorEq, G, a8, E]
 refine aa fun K2 hK2 => ?_
 refine aa fun K3 hK3 => ?_
 refine aj hP hN rfl ?_
 iterate 3 (refine ad rfl fun K0 Y => ?_; simp only [zE, op1, ev, lkp, ah, ag, am, ay, Nat.mul_one, aw, ax, acs, Ty.dflt, zG, aq, aC, aD, aE, ao, aB, aR, reduceCtorEq, G, E, J, V, M, U, Tryd.st24, Tryd.td24, Tryd.td3, Tryd.td4, Mpr.av]; (repeat refine And.intro (by first | omega | assumption | exact rfl) ?_); refine Y _ ?_; clear Y K0; simp only [put, app, a9, af, zE, zS, E])
 (refine ad rfl fun K0 Y => ?_; simp only [zE, op1, ev, lkp, ah, ag, ev, reduceCtorEq, G, E, J, V, M, U, Tryd.td4, Mpr.av]; refine Y _ ?_; clear Y K0; simp only [put, app, a9, af, zE, zS, E])
 refine' aY (want := false) 3 rfl (m := 8) (by simp only [Z, lkp, zE, reduceCtorEq, G, a8, E]; exact rfl) (by kernel_rfl) rfl rfl rfl rfl rfl (fun hg4 => ?a4) ?b4 ?c4
 case a4 =>
  have hq4 := hg4; (try simp only [zB, reduceCtorEq] at hg4); simp only [List.take_succ_cons, List.take_zero, List.cons_append, List.nil_append]
  (refine ar rfl fun K0 Y => ?_; simp only [zE, op1, ev, lkp, ah, ag, am, reduceCtorEq, G, E, J, V, M, U, Tryd.st24, Tryd.td24, Mpr.av]; (repeat refine And.intro (by first | omega | assumption | exact rfl) ?_); refine Y _ ?_; clear Y K0; simp only [put, app, a9, af, zE, zS, E])
  (refine ar rfl fun K0 Y => ?_; simp only [zE, op1, ev, lkp, ah, ag, ay, Nat.mul_one, aw, ax, acs, Ty.dflt, zG, aq, reduceCtorEq, G, E, J, V, M, U, Tryd.td3, Mpr.av]; (repeat refine And.intro (by first | omega | assumption | exact rfl) ?_); refine Y _ ?_; clear Y K0; simp only [put, app, a9, af, zE, zS, E])
  (refine ar rfl fun K0 Y => ?_; simp only [zE, op1, ev, lkp, ah, ag, aC, aD, aE, ao, aB, aR, reduceCtorEq, G, E, J, V, M, U, Tryd.td3, Tryd.td4, Mpr.av]; (repeat refine And.intro (by first | omega | assumption | exact rfl) ?_); refine Y _ ?_; clear Y K0; simp only [put, app, a9, af, zE, zS, E])
  (refine ad rfl fun K0 Y => ?_; simp only [zE, op1, ev, lkp, ah, ag, bt, reduceCtorEq, G, E, J, V, M, U, Tryd.td4, Mpr.av]; refine Y _ ?_; clear Y K0; simp only [put, app, a9, af, zE, zS, E])
  refine ai ?_
  refine ⟨by simp only [Z, lkp, zE, reduceCtorEq, G, a8, E]; exact rfl, rfl, ?_, rfl⟩; (repeat refine aZ rfl ?_); exact bz (by exact rfl) hq4
 case b4 => exact bv (by first | rfl | (simp [bV]; done) | decide)
 simp only [bj, bg]
 (refine ad rfl fun K0 Y => ?_; simp only [zE, op1, ev, lkp, ah, ag, ev, reduceCtorEq, G, E, J, V, M, U, Tryd.td4, Mpr.av]; refine Y _ ?_; clear Y K0; simp only [put, app, a9, af, zE, zS, E])
 refine' aY (want := false) 3 rfl (m := 13) (by simp only [Z, lkp, zE, reduceCtorEq, G, a8, E]; exact rfl) (by kernel_rfl) rfl rfl rfl rfl rfl (fun hg5 => ?a5) ?b5 ?c5
 case a5 =>
  have hq5 := hg5; (try simp only [zB, reduceCtorEq] at hg5); simp only [List.take_succ_cons, List.take_zero, List.cons_append, List.nil_append]
  (refine ar rfl fun K0 Y => ?_; simp only [zE, op1, ev, lkp, ah, ag, am, reduceCtorEq, G, E, J, V, M, U, Tryd.st24, Tryd.td1, Tryd.td24, Mpr.av]; (repeat refine And.intro (by first | omega | assumption | exact rfl) ?_); refine Y _ ?_; clear Y K0; simp only [put, app, a9, af, zE, zS, E])
  (refine ar rfl fun K0 Y => ?_; simp only [zE, op1, ev, lkp, ah, ag, ay, Nat.mul_one, aw, ax, acs, Ty.dflt, zG, aq, reduceCtorEq, G, E, J, V, M, U, Tryd.td3, Mpr.av]; (repeat refine And.intro (by first | omega | assumption | exact rfl) ?_); refine Y _ ?_; clear Y K0; simp only [put, app, a9, af, zE, zS, E])
  (refine ar rfl fun K0 Y => ?_; simp only [zE, op1, ev, lkp, ah, ag, aC, aD, aE, ao, aB, aR, reduceCtorEq, G, E, J, V, M, U, Tryd.td3, Tryd.td4, Mpr.av]; (repeat refine And.intro (by first | omega | assumption | exact rfl) ?_); refine Y _ ?_; clear Y K0; simp only [put, app, a9, af, zE, zS, E])
  (refine ad rfl fun K0 Y => ?_; simp only [zE, op1, ev, lkp, ah, ag, bt, reduceCtorEq, G, E, J, V, M, U, Tryd.td4, Mpr.av]; refine Y _ ?_; clear Y K0; simp only [put, app, a9, af, zE, zS, E])
  refine ai ?_
  refine ⟨by simp only [Z, lkp, zE, reduceCtorEq, G, a8, E]; exact rfl, rfl, ?_, rfl⟩; (repeat refine aZ rfl ?_); exact bz (by exact rfl) hq5
 case b5 => exact bv (by first | rfl | (simp [bV]; done) | decide)
 simp only [bj, bg]
 (refine ad rfl fun K0 Y => ?_; simp only [zE, op1, ev, lkp, ah, ag, ev, reduceCtorEq, G, E, J, V, M, U, Tryd.td4, Mpr.av]; refine Y _ ?_; clear Y K0; simp only [put, app, a9, af, zE, zS, E])
 refine' aY (want := false) 3 rfl (m := 18) (by simp only [Z, lkp, zE, reduceCtorEq, G, a8, E]; exact rfl) (by kernel_rfl) rfl rfl rfl rfl rfl (fun hg6 => ?a6) ?b6 ?c6
 case a6 =>
  have hq6 := hg6; (try simp only [zB, reduceCtorEq] at hg6); simp only [List.take_succ_cons, List.take_zero, List.cons_append, List.nil_append]
  (refine ar rfl fun K0 Y => ?_; simp only [zE, op1, ev, lkp, ah, ag, am, reduceCtorEq, G, E, J, V, M, U, Tryd.st24, Tryd.td1, Tryd.td24, Mpr.av]; (repeat refine And.intro (by first | omega | assumption | exact rfl) ?_); refine Y _ ?_; clear Y K0; simp only [put, app, a9, af, zE, zS, E])
  (refine ar rfl fun K0 Y => ?_; simp only [zE, op1, ev, lkp, ah, ag, ay, Nat.mul_one, aw, ax, acs, Ty.dflt, zG, aq, reduceCtorEq, G, E, J, V, M, U, Tryd.td3, Mpr.av]; (repeat refine And.intro (by first | omega | assumption | exact rfl) ?_); refine Y _ ?_; clear Y K0; simp only [put, app, a9, af, zE, zS, E])
  (refine ar rfl fun K0 Y => ?_; simp only [zE, op1, ev, lkp, ah, ag, aC, aD, aE, ao, aB, aR, reduceCtorEq, G, E, J, V, M, U, Tryd.td3, Tryd.td4, Mpr.av]; (repeat refine And.intro (by first | omega | assumption | exact rfl) ?_); refine Y _ ?_; clear Y K0; simp only [put, app, a9, af, zE, zS, E])
  (refine ad rfl fun K0 Y => ?_; simp only [zE, op1, ev, lkp, ah, ag, bt, reduceCtorEq, G, E, J, V, M, U, Tryd.td4, Mpr.av]; refine Y _ ?_; clear Y K0; simp only [put, app, a9, af, zE, zS, E])
  refine ai ?_
  refine ⟨by simp only [Z, lkp, zE, reduceCtorEq, G, a8, E]; exact rfl, rfl, ?_, rfl⟩; (repeat refine aZ rfl ?_); exact bz (by exact rfl) hq6
 case b6 => exact bv (by first | rfl | (simp [bV]; done) | decide)
 simp only [bj, bg]
 refine ai ?_
 refine hK3 _ ?_; clear hK3; refine ae [0, 1, 2, 22] ?_; simp only [Z, lkp, zE, reduceCtorEq, G, a8, E]
 refine aG (by simp only [ev, Z, lkp, zE, reduceCtorEq, G, a8, E]; exact rfl) (fun hc7 => ?_) (fun hc7 => ?_)
 ·(try simp only [zB, reduceCtorEq] at hc7)
  refine aa fun K8 hK8 => ?_
  refine aj hP hN rfl ?_
  (refine ad rfl fun K0 Y => ?_; simp only [zE, op1, ev, lkp, ah, ag, ev, reduceCtorEq, G, E, J, V, M, U, Tryd.td3, Mpr.av]; refine Y _ ?_; clear Y K0; simp only [put, app, a9, af, zE, zS, E])
  refine ai ?_
  refine hK8 _ ?_; clear hK8; refine ae [0, 1, 2, 22] ?_; simp only [Z, lkp, zE, reduceCtorEq, G, a8, E]
  refine aP ?_
  refine ⟨by first | exact .inl rfl | exact .inr rfl, _, rfl, ?_⟩; simp only [fzV, fz1, fzC, List.map_cons, List.map_nil, Z, lkp, zE, reduceCtorEq, G, a8, E, Mpr.av]
  refine VLE.of_eq ?_
  refine congrArg (fun n => AV.one (AC.int IntKind.i64 n)) ?_
  unfold bQ
  symm
  first
  | (rw [if_pos (by omega)]; done)
  | (rw [if_neg (by omega), if_pos (by omega)]; done)
  | (rw [if_neg (by omega), if_neg (by omega), if_pos (by omega)]; done)
  | (rw [if_neg (by omega), if_neg (by omega), if_neg (by omega), if_pos (by omega)]; done)
  | (rw [if_neg (by omega), if_neg (by omega), if_neg (by omega), if_neg (by omega), if_pos (by omega)]; done)
  | (rw [if_neg (by omega), if_neg (by omega), if_neg (by omega), if_neg (by omega), if_neg (by omega)]
     first
     | (exact aX hrows (by omega) (by assumption))
     | exact (aX hrows (by omega) (by rw [cb hl9]; decide)).trans (cb hl9)
     | exact (aX hrows (by omega) (by rw [ca hl9 (by omega) hb9]; decide)).trans (ca hl9 (by omega) hb9)
     | exact bD fun i hi => hrows i (by omega))
 ·(try simp only [zB, reduceCtorEq] at hc7)
  refine aJ ?_
  refine hK2 _ ?_; clear hK2; refine ae [0, 1, 2, 22] ?_; simp only [Z, lkp, zE, reduceCtorEq, G, a8, E]
  refine aa fun K9 hK9 => ?_
  refine aa fun K10 hK10 => ?_
  refine aj hP hN rfl ?_
  iterate 4 (refine ad rfl fun K0 Y => ?_; simp only [zE, op1, ev, lkp, ah, ag, am, ay, Nat.mul_one, aw, ax, acs, Ty.dflt, zG, aq, aF, bu, bh, ba, bb, bq, Nat.div_one, aK, bf, Ty.size, aL, dite_true, aC, aD, aE, ao, aB, aR, reduceCtorEq, G, E, J, V, M, U, Tryd.el22, Tryd.st24, Tryd.td22, Tryd.td24, Tryd.td3, Tryd.td4, Mpr.av]; (repeat refine And.intro (by first | omega | assumption | exact rfl) ?_); (first | refine Y _ ?_ | refine Or.inl (Y _ ?_)); clear Y K0; simp only [put, app, a9, af, zE, zS, E])
  refine ai ?_
  refine hK10 _ ?_; clear hK10; refine ae [0, 1, 2, 22, 26] ?_; simp only [Z, lkp, zE, reduceCtorEq, G, a8, E]
  refine aG (by simp only [ev, Z, lkp, zE, reduceCtorEq, G, a8, E]; exact rfl) (fun hc11 => ?_) (fun hc11 => ?_)
  ·(try simp only [zB, reduceCtorEq] at hc11)
   refine aa fun K12 hK12 => ?_
   refine aj hP hN rfl ?_
   (refine ad rfl fun K0 Y => ?_; simp only [zE, op1, ev, lkp, ah, ag, ev, reduceCtorEq, G, E, J, V, M, U, Tryd.td3, Mpr.av]; refine Y _ ?_; clear Y K0; simp only [put, app, a9, af, zE, zS, E])
   refine ai ?_
   refine hK12 _ ?_; clear hK12; refine ae [0, 1, 2, 22, 26] ?_; simp only [Z, lkp, zE, reduceCtorEq, G, a8, E]
   refine aP ?_
   refine ⟨by first | exact .inl rfl | exact .inr rfl, _, rfl, ?_⟩; simp only [fzV, fz1, fzC, List.map_cons, List.map_nil, Z, lkp, zE, reduceCtorEq, G, a8, E, Mpr.av]
   refine VLE.of_eq ?_
   refine congrArg (fun n => AV.one (AC.int IntKind.i64 n)) ?_
   unfold bQ
   symm
   first
   | (rw [if_pos (by omega)]; done)
   | (rw [if_neg (by omega), if_pos (by omega)]; done)
   | (rw [if_neg (by omega), if_neg (by omega), if_pos (by omega)]; done)
   | (rw [if_neg (by omega), if_neg (by omega), if_neg (by omega), if_pos (by omega)]; done)
   | (rw [if_neg (by omega), if_neg (by omega), if_neg (by omega), if_neg (by omega), if_pos (by omega)]; done)
   | (rw [if_neg (by omega), if_neg (by omega), if_neg (by omega), if_neg (by omega), if_neg (by omega)]
      first
      | (exact aX hrows (by omega) (by assumption))
      | exact (aX hrows (by omega) (by rw [cb hl9]; decide)).trans (cb hl9)
      | exact (aX hrows (by omega) (by rw [ca hl9 (by omega) hb9]; decide)).trans (ca hl9 (by omega) hb9)
      | exact bD fun i hi => hrows i (by omega))
  ·(try simp only [zB, reduceCtorEq] at hc11)
   refine aJ ?_
   refine hK9 _ ?_; clear hK9; refine ae [0, 1, 2, 22, 26] ?_; simp only [Z, lkp, zE, reduceCtorEq, G, a8, E]
   refine aa fun K13 hK13 => ?_
   refine aa fun K14 hK14 => ?_
   refine aj hP hN rfl ?_
   iterate 4 (refine ad rfl fun K0 Y => ?_; simp only [zE, op1, ev, lkp, ah, ag, am, ay, Nat.mul_one, aw, ax, acs, Ty.dflt, zG, aq, aF, bu, bh, ba, bb, bq, Nat.div_one, aK, bf, Ty.size, aL, dite_true, aC, aD, aE, ao, aB, aR, reduceCtorEq, G, E, J, V, M, U, Tryd.el22, Tryd.st24, Tryd.td22, Tryd.td24, Tryd.td3, Tryd.td4, Mpr.av]; (repeat refine And.intro (by first | omega | assumption | exact rfl) ?_); (first | refine Y _ ?_ | refine Or.inl (Y _ ?_)); clear Y K0; simp only [put, app, a9, af, zE, zS, E])
   refine ai ?_
   refine hK14 _ ?_; clear hK14; refine ae [0, 1, 2, 22, 26, 30] ?_; simp only [Z, lkp, zE, reduceCtorEq, G, a8, E]
   refine aG (by simp only [ev, Z, lkp, zE, reduceCtorEq, G, a8, E]; exact rfl) (fun hc15 => ?_) (fun hc15 => ?_)
   ·(try simp only [zB, reduceCtorEq] at hc15)
    refine aa fun K16 hK16 => ?_
    refine aj hP hN rfl ?_
    (refine ad rfl fun K0 Y => ?_; simp only [zE, op1, ev, lkp, ah, ag, ev, reduceCtorEq, G, E, J, V, M, U, Tryd.td3, Mpr.av]; refine Y _ ?_; clear Y K0; simp only [put, app, a9, af, zE, zS, E])
    refine ai ?_
    refine hK16 _ ?_; clear hK16; refine ae [0, 1, 2, 22, 26, 30] ?_; simp only [Z, lkp, zE, reduceCtorEq, G, a8, E]
    refine aP ?_
    refine ⟨by first | exact .inl rfl | exact .inr rfl, _, rfl, ?_⟩; simp only [fzV, fz1, fzC, List.map_cons, List.map_nil, Z, lkp, zE, reduceCtorEq, G, a8, E, Mpr.av]
    refine VLE.of_eq ?_
    refine congrArg (fun n => AV.one (AC.int IntKind.i64 n)) ?_
    unfold bQ
    symm
    first
    | (rw [if_pos (by omega)]; done)
    | (rw [if_neg (by omega), if_pos (by omega)]; done)
    | (rw [if_neg (by omega), if_neg (by omega), if_pos (by omega)]; done)
    | (rw [if_neg (by omega), if_neg (by omega), if_neg (by omega), if_pos (by omega)]; done)
    | (rw [if_neg (by omega), if_neg (by omega), if_neg (by omega), if_neg (by omega), if_pos (by omega)]; done)
    | (rw [if_neg (by omega), if_neg (by omega), if_neg (by omega), if_neg (by omega), if_neg (by omega)]
       first
       | (exact aX hrows (by omega) (by assumption))
       | exact (aX hrows (by omega) (by rw [cb hl9]; decide)).trans (cb hl9)
       | exact (aX hrows (by omega) (by rw [ca hl9 (by omega) hb9]; decide)).trans (ca hl9 (by omega) hb9)
       | exact bD fun i hi => hrows i (by omega))
   ·(try simp only [zB, reduceCtorEq] at hc15)
    refine aJ ?_
    refine hK13 _ ?_; clear hK13; refine ae [0, 1, 2, 22, 26, 30] ?_; simp only [Z, lkp, zE, reduceCtorEq, G, a8, E]
    refine aa fun K17 hK17 => ?_
    refine aa fun K18 hK18 => ?_
    refine aj hP hN rfl ?_
    iterate 3 (refine ad rfl fun K0 Y => ?_; simp only [zE, op1, ev, lkp, ah, ag, am, ay, Nat.mul_one, aw, ax, acs, Ty.dflt, zG, aq, aC, aD, aE, ao, aB, aR, reduceCtorEq, G, E, J, V, M, U, Tryd.st24, Tryd.td2, Tryd.td24, Tryd.td3, Tryd.td4, Mpr.av]; (repeat refine And.intro (by first | omega | assumption | exact rfl) ?_); refine Y _ ?_; clear Y K0; simp only [put, app, a9, af, zE, zS, E])
    (refine ad rfl fun K0 Y => ?_; simp only [zE, op1, ev, lkp, ah, ag, ev, reduceCtorEq, G, E, J, V, M, U, Tryd.td4, Mpr.av]; refine Y _ ?_; clear Y K0; simp only [put, app, a9, af, zE, zS, E])
    refine' aY (want := false) 6 rfl (m := 34) (by simp only [Z, lkp, zE, reduceCtorEq, G, a8, E]; exact rfl) (by kernel_rfl) rfl rfl rfl rfl rfl (fun hg19 => ?a19) ?b19 ?c19
    case a19 =>
     have hq19 := hg19; (try simp only [zB, reduceCtorEq] at hg19); simp only [List.take_succ_cons, List.take_zero, List.cons_append, List.nil_append]
     (refine ar rfl fun K0 Y => ?_; simp only [zE, op1, ev, lkp, ah, ag, am, reduceCtorEq, G, E, J, V, M, U, Tryd.st24, Tryd.td2, Tryd.td24, Mpr.av]; (repeat refine And.intro (by first | omega | assumption | exact rfl) ?_); refine Y _ ?_; clear Y K0; simp only [put, app, a9, af, zE, zS, E])
     (refine ar rfl fun K0 Y => ?_; simp only [zE, op1, ev, lkp, ah, ag, ay, Nat.mul_one, aw, ax, acs, Ty.dflt, zG, aq, reduceCtorEq, G, E, J, V, M, U, Tryd.td3, Mpr.av]; (repeat refine And.intro (by first | omega | assumption | exact rfl) ?_); refine Y _ ?_; clear Y K0; simp only [put, app, a9, af, zE, zS, E])
     (refine ar rfl fun K0 Y => ?_; simp only [zE, op1, ev, lkp, ah, ag, am, reduceCtorEq, G, E, J, V, M, U, Tryd.st24, Tryd.td24, Tryd.td3, Mpr.av]; (repeat refine And.intro (by first | omega | assumption | exact rfl) ?_); refine Y _ ?_; clear Y K0; simp only [put, app, a9, af, zE, zS, E])
     (refine ar rfl fun K0 Y => ?_; simp only [zE, op1, ev, lkp, ah, ag, ay, Nat.mul_one, aw, ax, acs, Ty.dflt, zG, aq, reduceCtorEq, G, E, J, V, M, U, Tryd.el22, Tryd.td22, Mpr.av]; (repeat refine And.intro (by first | omega | assumption | exact rfl) ?_); refine Y _ ?_; clear Y K0; simp only [put, app, a9, af, zE, zS, E])
     (refine ar rfl fun K0 Y => ?_; simp only [zE, op1, ev, lkp, ah, ag, aF, bu, bh, ba, bb, bq, Nat.div_one, aK, bf, Ty.size, aL, dite_true, reduceCtorEq, G, E, J, V, M, U, Tryd.el22, Tryd.td22, Tryd.td3, Mpr.av]; (repeat refine And.intro (by first | omega | assumption | exact rfl) ?_); (first | refine Y _ ?_ | refine Or.inl (Y _ ?_)); clear Y K0; simp only [put, app, a9, af, zE, zS, E])
     (refine ar rfl fun K0 Y => ?_; simp only [zE, op1, ev, lkp, ah, ag, aC, aD, aE, ao, aB, aR, reduceCtorEq, G, E, J, V, M, U, Tryd.td3, Tryd.td4, Mpr.av]; (repeat refine And.intro (by first | omega | assumption | exact rfl) ?_); refine Y _ ?_; clear Y K0; simp only [put, app, a9, af, zE, zS, E])
     (refine ad rfl fun K0 Y => ?_; simp only [zE, op1, ev, lkp, ah, ag, bt, reduceCtorEq, G, E, J, V, M, U, Tryd.td4, Mpr.av]; refine Y _ ?_; clear Y K0; simp only [put, app, a9, af, zE, zS, E])
     refine ai ?_
     refine ⟨by simp only [Z, lkp, zE, reduceCtorEq, G, a8, E]; exact rfl, rfl, ?_, rfl⟩; (repeat refine aZ rfl ?_); exact bz (by exact rfl) hq19
    case b19 => exact bv (by first | rfl | (simp [bV]; done) | decide)
    simp only [bj, bg]
    refine ai ?_
    refine hK18 _ ?_; clear hK18; refine ae [0, 1, 2, 22, 26, 30, 41] ?_; simp only [Z, lkp, zE, reduceCtorEq, G, a8, E]
    refine aG (by simp only [ev, Z, lkp, zE, reduceCtorEq, G, a8, E]; exact rfl) (fun hc20 => ?_) (fun hc20 => ?_)
    ·(try simp only [zB, reduceCtorEq] at hc20)
     refine aa fun K21 hK21 => ?_
     refine aj hP hN rfl ?_
     (refine ad rfl fun K0 Y => ?_; simp only [zE, op1, ev, lkp, ah, ag, ev, reduceCtorEq, G, E, J, V, M, U, Tryd.td3, Mpr.av]; refine Y _ ?_; clear Y K0; simp only [put, app, a9, af, zE, zS, E])
     refine ai ?_
     refine hK21 _ ?_; clear hK21; refine ae [0, 1, 2, 22, 26, 30, 41] ?_; simp only [Z, lkp, zE, reduceCtorEq, G, a8, E]
     refine aP ?_
     refine ⟨by first | exact .inl rfl | exact .inr rfl, _, rfl, ?_⟩; simp only [fzV, fz1, fzC, List.map_cons, List.map_nil, Z, lkp, zE, reduceCtorEq, G, a8, E, Mpr.av]
     refine VLE.of_eq ?_
     refine congrArg (fun n => AV.one (AC.int IntKind.i64 n)) ?_
     unfold bQ
     symm
     first
     | (rw [if_pos (by omega)]; done)
     | (rw [if_neg (by omega), if_pos (by omega)]; done)
     | (rw [if_neg (by omega), if_neg (by omega), if_pos (by omega)]; done)
     | (rw [if_neg (by omega), if_neg (by omega), if_neg (by omega), if_pos (by omega)]; done)
     | (rw [if_neg (by omega), if_neg (by omega), if_neg (by omega), if_neg (by omega), if_pos (by omega)]; done)
     | (rw [if_neg (by omega), if_neg (by omega), if_neg (by omega), if_neg (by omega), if_neg (by omega)]
        first
        | (exact aX hrows (by omega) (by assumption))
        | exact (aX hrows (by omega) (by rw [cb hl9]; decide)).trans (cb hl9)
        | exact (aX hrows (by omega) (by rw [ca hl9 (by omega) hb9]; decide)).trans (ca hl9 (by omega) hb9)
        | exact bD fun i hi => hrows i (by omega))
    ·(try simp only [zB, reduceCtorEq] at hc20)
     refine aJ ?_
     refine hK17 _ ?_; clear hK17; refine ae [0, 1, 2, 22, 26, 30, 41] ?_; simp only [Z, lkp, zE, reduceCtorEq, G, a8, E]
     refine aa fun K22 hK22 => ?_
     refine aa fun K23 hK23 => ?_
     refine aj hP hN rfl ?_
     iterate 7 (refine ad rfl fun K0 Y => ?_; simp only [zE, op1, ev, lkp, ah, ag, am, ay, Nat.mul_one, aw, ax, acs, Ty.dflt, zG, aq, aF, bu, bh, ba, bb, bq, Nat.div_one, aK, bf, Ty.size, aL, dite_true, aC, aD, aE, ao, aB, aR, reduceCtorEq, G, E, J, V, M, U, Tryd.el22, Tryd.st24, Tryd.td22, Tryd.td24, Tryd.td3, Tryd.td4, Mpr.av]; (repeat refine And.intro (by first | omega | assumption | exact rfl) ?_); (first | refine Y _ ?_ | refine Or.inl (Y _ ?_)); clear Y K0; simp only [put, app, a9, af, zE, zS, E])
     refine ai ?_
     refine hK23 _ ?_; clear hK23; refine ae [0, 1, 2, 22, 26, 30, 41, 48] ?_; simp only [Z, lkp, zE, reduceCtorEq, G, a8, E]
     refine aG (by simp only [ev, Z, lkp, zE, reduceCtorEq, G, a8, E]; exact rfl) (fun hc24 => ?_) (fun hc24 => ?_)
     ·(try simp only [zB, reduceCtorEq] at hc24)
      refine aa fun K25 hK25 => ?_
      refine aj hP hN rfl ?_
      (refine ad rfl fun K0 Y => ?_; simp only [zE, op1, ev, lkp, ah, ag, ev, reduceCtorEq, G, E, J, V, M, U, Tryd.td3, Mpr.av]; refine Y _ ?_; clear Y K0; simp only [put, app, a9, af, zE, zS, E])
      refine ai ?_
      refine hK25 _ ?_; clear hK25; refine ae [0, 1, 2, 22, 26, 30, 41, 48] ?_; simp only [Z, lkp, zE, reduceCtorEq, G, a8, E]
      refine aP ?_
      refine ⟨by first | exact .inl rfl | exact .inr rfl, _, rfl, ?_⟩; simp only [fzV, fz1, fzC, List.map_cons, List.map_nil, Z, lkp, zE, reduceCtorEq, G, a8, E, Mpr.av]
      refine VLE.of_eq ?_
      refine congrArg (fun n => AV.one (AC.int IntKind.i64 n)) ?_
      unfold bQ
      symm
      first
      | (rw [if_pos (by omega)]; done)
      | (rw [if_neg (by omega), if_pos (by omega)]; done)
      | (rw [if_neg (by omega), if_neg (by omega), if_pos (by omega)]; done)
      | (rw [if_neg (by omega), if_neg (by omega), if_neg (by omega), if_pos (by omega)]; done)
      | (rw [if_neg (by omega), if_neg (by omega), if_neg (by omega), if_neg (by omega), if_pos (by omega)]; done)
      | (rw [if_neg (by omega), if_neg (by omega), if_neg (by omega), if_neg (by omega), if_neg (by omega)]
         first
         | (exact aX hrows (by omega) (by assumption))
         | exact (aX hrows (by omega) (by rw [cb hl9]; decide)).trans (cb hl9)
         | exact (aX hrows (by omega) (by rw [ca hl9 (by omega) hb9]; decide)).trans (ca hl9 (by omega) hb9)
         | exact bD fun i hi => hrows i (by omega))
     ·(try simp only [zB, reduceCtorEq] at hc24)
      refine aJ ?_
      refine hK22 _ ?_; clear hK22; refine ae [0, 1, 2, 22, 26, 30, 41, 48] ?_; simp only [Z, lkp, zE, reduceCtorEq, G, a8, E]
      refine aa fun K26 hK26 => ?_
      refine aa fun K27 hK27 => ?_
      refine aj hP hN rfl ?_
      (refine ad rfl fun K0 Y => ?_; simp only [zE, op1, ev, lkp, ah, ag, ev, reduceCtorEq, G, E, J, V, M, U, Tryd.td3, Mpr.av]; refine Y _ ?_; clear Y K0; simp only [put, app, a9, af, zE, zS, E])
      refine ai ?_
      refine hK27 _ ?_; clear hK27; refine ae [0, 1, 2, 3, 22, 26, 30, 41, 48] ?_; simp only [Z, lkp, zE, reduceCtorEq, G, a8, E]
      refine aW ?_
      refine bM (fun n28 s28 => ∃ (k : Nat), (k ≤ p.nx.length) ∧ (∀ i, i < k → fA p i = 0) ∧ n28 = p.nx.length - k ∧ s28 = { env := [(1, .one (.ptr 0 0 0 0)), (2, .one (.int .i64 0)), (3, .one (.int .i64 (k : Int)))], L := [.vars 24 [.int .i64 p.inp, .int .i64 p.ab, .int .i64 p.st, .list (.list (.int .i64)) p.nx, .list (.list (.int .i64)) p.sy]] }) ?_ ?_
      ·exact ⟨_, _, aS [1, 2, 3], 0, Nat.zero_le _, fun i hi => by omega, rfl, rfl⟩
      ·rintro n28 s28 ⟨k, hk, hrows, rfl, rfl⟩
       refine aa fun K29 hK29 => ?_
       refine aa fun K30 hK30 => ?_
       refine aj hP hN rfl ?_
       iterate 5 (refine ad rfl fun K0 Y => ?_; simp only [zE, op1, ev, lkp, ah, ag, am, ay, Nat.mul_one, aw, ax, acs, Ty.dflt, zG, aq, aF, bu, bh, ba, bb, bq, Nat.div_one, aK, bf, Ty.size, aL, dite_true, aC, aD, aE, ao, aB, aR, reduceCtorEq, G, E, J, V, M, U, Tryd.el22, Tryd.st24, Tryd.td22, Tryd.td24, Tryd.td3, Tryd.td4, Mpr.av]; (repeat refine And.intro (by first | omega | assumption | exact rfl) ?_); (first | refine Y _ ?_ | refine Or.inl (Y _ ?_)); clear Y K0; simp only [put, app, a9, af, zE, zS, E])
       refine ai ?_
       refine hK30 _ ?_; clear hK30; refine ae [1, 2, 3, 53] ?_; simp only [Z, lkp, zE, reduceCtorEq, G, a8, E]
       refine aG (by simp only [ev, Z, lkp, zE, reduceCtorEq, G, a8, E]; exact rfl) (fun hc31 => ?_) (fun hc31 => ?_)
       ·(try simp only [zB, reduceCtorEq] at hc31)
        refine aJ ?_
        refine hK29 _ ?_; clear hK29; refine ae [1, 2, 3, 53] ?_; simp only [Z, lkp, zE, reduceCtorEq, G, a8, E]
        refine aa fun K32 hK32 => ?_
        refine aW ?_
        refine aa fun K33 hK33 => ?_
        refine aj hP hN rfl ?_
        iterate 2 (refine ad rfl fun K0 Y => ?_; simp only [zE, op1, ev, lkp, ah, ag, ay, Nat.mul_one, aw, ax, acs, Ty.dflt, zG, aq, reduceCtorEq, G, E, J, V, M, U, Tryd.st24, Tryd.td24, Tryd.td3, Mpr.av]; (repeat refine And.intro (by first | omega | assumption | exact rfl) ?_); refine Y _ ?_; clear Y K0; simp only [put, app, a9, af, zE, zS, E])
        refine ad rfl fun K0 Y => ?_
        refine bc (h := aU (rd p k (by omega) (by omega) (by omega))) rfl rfl (by first | exact rfl | (simp only [ev, Z, lkp, zE, reduceCtorEq, G, a8, E]; exact rfl)) (by simp only [zE, zG, op1, ev, lkp, ah, ag, au, acs, br, mv1, mvC, Ty.dflt, reduceCtorEq, G, E, J, V, M, U, Mpr.av]) ?_
        refine Y _ ?_; clear Y K0; simp only [put, app, a9, af, zE, zS, E]
        (refine ad rfl fun K0 Y => ?_; simp only [zE, op1, ev, lkp, ah, ag, ev, reduceCtorEq, G, E, J, V, M, U, Tryd.td3, Mpr.av]; refine Y _ ?_; clear Y K0; simp only [put, app, a9, af, zE, zS, E])
        refine ai ?_
        refine hK33 _ ?_; clear hK33; refine ae [1, 2, 3, 4, 53] ?_; simp only [Z, lkp, zE, reduceCtorEq, G, a8, E]
        refine aa fun K34 hK34 => ?_
        refine aj hP hN rfl ?_
        iterate 2 (refine ad rfl fun K0 Y => ?_; simp only [zE, op1, ev, lkp, ah, ag, aC, aD, aE, ao, aB, aR, reduceCtorEq, G, E, J, V, M, U, Tryd.td3, Tryd.td4, Mpr.av]; (repeat refine And.intro (by first | omega | assumption | exact rfl) ?_); refine Y _ ?_; clear Y K0; simp only [put, app, a9, af, zE, zS, E])
        refine ai ?_
        refine hK34 _ ?_; clear hK34; refine ae [1, 2, 3, 4, 53, 60] ?_; simp only [Z, lkp, zE, reduceCtorEq, G, a8, E]
        refine aG (by simp only [ev, Z, lkp, zE, reduceCtorEq, G, a8, E]; exact rfl) (fun hc35 => ?_) (fun hc35 => ?_)
        ·(try simp only [zB, reduceCtorEq] at hc35)
         refine aa fun K36 hK36 => ?_
         refine aj hP hN rfl ?_
         iterate 2 (refine ad rfl fun K0 Y => ?_; simp only [zE, op1, ev, lkp, ah, ag, ev, reduceCtorEq, G, E, J, V, M, U, Tryd.td3, Mpr.av]; refine Y _ ?_; clear Y K0; simp only [put, app, a9, af, zE, zS, E])
         refine ai ?_
         refine hK36 _ ?_; clear hK36; refine ae [1, 2, 3, 4, 53, 60] ?_; simp only [Z, lkp, zE, reduceCtorEq, G, a8, E]
         refine aP ?_
         refine ⟨by first | exact .inl rfl | exact .inr rfl, _, rfl, ?_⟩; simp only [fzV, fz1, fzC, List.map_cons, List.map_nil, Z, lkp, zE, reduceCtorEq, G, a8, E, Mpr.av]
         refine VLE.of_eq ?_
         refine congrArg (fun n => AV.one (AC.int IntKind.i64 n)) ?_
         unfold bQ
         symm
         first
         | (rw [if_pos (by omega)]; done)
         | (rw [if_neg (by omega), if_pos (by omega)]; done)
         | (rw [if_neg (by omega), if_neg (by omega), if_pos (by omega)]; done)
         | (rw [if_neg (by omega), if_neg (by omega), if_neg (by omega), if_pos (by omega)]; done)
         | (rw [if_neg (by omega), if_neg (by omega), if_neg (by omega), if_neg (by omega), if_pos (by omega)]; done)
         | (rw [if_neg (by omega), if_neg (by omega), if_neg (by omega), if_neg (by omega), if_neg (by omega)]
            first
            | (exact aX hrows (by omega) (by assumption))
            | exact (aX hrows (by omega) (by rw [cb hl9]; decide)).trans (cb hl9)
            | exact (aX hrows (by omega) (by rw [ca hl9 (by omega) hb9]; decide)).trans (ca hl9 (by omega) hb9)
            | exact bD fun i hi => hrows i (by omega))
        ·(try simp only [zB, reduceCtorEq] at hc35)
         refine aJ ?_
         refine hK32 _ ?_; clear hK32; refine ae [1, 2, 3, 4, 53, 60] ?_; simp only [Z, lkp, zE, reduceCtorEq, G, a8, E]
         refine aj hP hN rfl ?_
         iterate 3 (refine ad rfl fun K0 Y => ?_; simp only [zE, op1, ev, lkp, ah, ag, aC, aD, aE, ao, aB, aR, reduceCtorEq, G, E, J, V, M, U, Tryd.td3, Mpr.av]; (repeat refine And.intro (by first | omega | assumption | exact rfl) ?_); refine Y _ ?_; clear Y K0; simp only [put, app, a9, af, zE, zS, E])
         refine ai ?_
         refine ⟨_, _, ?_, aS [1, 2, 3], k + 1, by omega, fun i hi => ?_, rfl, rfl⟩
         · omega
         · by_cases e : i = k
           · rw [e]; omega
           · exact hrows i (by omega)
       ·(try simp only [zB, reduceCtorEq] at hc31)
        refine bK ?_
        refine hK26 _ ?_; clear hK26; refine ae [1, 2, 3, 53] ?_; simp only [Z, lkp, zE, reduceCtorEq, G, a8, E]
        refine aa fun K37 hK37 => ?_
        refine aj hP hN rfl ?_
        (refine ad rfl fun K0 Y => ?_; simp only [zE, op1, ev, lkp, ah, ag, ev, reduceCtorEq, G, E, J, V, M, U, Tryd.td3, Mpr.av]; refine Y _ ?_; clear Y K0; simp only [put, app, a9, af, zE, zS, E])
        refine ai ?_
        refine hK37 _ ?_; clear hK37; refine ae [1, 2, 3, 53] ?_; simp only [Z, lkp, zE, reduceCtorEq, G, a8, E]
        refine aP ?_
        refine ⟨by first | exact .inl rfl | exact .inr rfl, _, rfl, ?_⟩; simp only [fzV, fz1, fzC, List.map_cons, List.map_nil, Z, lkp, zE, reduceCtorEq, G, a8, E, Mpr.av]
        refine VLE.of_eq ?_
        refine congrArg (fun n => AV.one (AC.int IntKind.i64 n)) ?_
        unfold bQ
        symm
        first
        | (rw [if_pos (by omega)]; done)
        | (rw [if_neg (by omega), if_pos (by omega)]; done)
        | (rw [if_neg (by omega), if_neg (by omega), if_pos (by omega)]; done)
        | (rw [if_neg (by omega), if_neg (by omega), if_neg (by omega), if_pos (by omega)]; done)
        | (rw [if_neg (by omega), if_neg (by omega), if_neg (by omega), if_neg (by omega), if_pos (by omega)]; done)
        | (rw [if_neg (by omega), if_neg (by omega), if_neg (by omega), if_neg (by omega), if_neg (by omega)]
           first
           | (exact aX hrows (by omega) (by assumption))
           | exact (aX hrows (by omega) (by rw [cb hl9]; decide)).trans (cb hl9)
           | exact (aX hrows (by omega) (by rw [ca hl9 (by omega) hb9]; decide)).trans (ca hl9 (by omega) hb9)
           | exact bD fun i hi => hrows i (by omega))
end Go.Proofs.YtgmgnkmgofkfpaaDoor
namespace Go.Proofs.YtgmgnkmgofkfpaaDoor
open Go Go.AV
open Nat renaming reduceEqDiff → G, reduceAdd → E, reduceLeDiff → J, reduceLT → V, reduceMul → M, reduceSub → U
open List renaming set_cons_zero → aA, set_cons_succ → az
set_option maxRecDepth 100000 in
theorem rj (m : Mly) (s : Nat) (hi : m.inp ≤ 64) (hs : s < m.nx.length) (ho : m.ot.length = m.nx.length) : ch Tryd.prog 49 [m.av, .one (.int .i64 (s : Int))] (.one (.int .i64 (fu m s))) := by
 refine bp Tryd.func49 rfl (by kernel_rfl) (Nat.le_of_ble_eq_true rfl) rfl fun C hP hN hB => ?_
 replace hN : C.N = 77 := hN
 simp only [a8, E]
 refine aa fun K1 hK1 => ?_
 refine aj hP hN rfl ?_
 iterate 2 (refine ad rfl fun K0 Y => ?_; simp only [zE, op1, ev, lkp, ah, ag, cA, au, reduceCtorEq, G, E, J, V, M, U, Tryd.st47, Tryd.td3, Tryd.td47, Mly.av]; (repeat refine And.intro (by first | omega | assumption | exact rfl) ?_); refine Y _ ?_; clear Y K0; simp only [put, app, a9, af, zE, zS, E])
 refine ai ?_
 refine hK1 _ ?_; clear hK1; refine ae [0, 1, 2, 4] ?_; simp only [Z, lkp, zE, reduceCtorEq, G, a8, E]
 refine aa fun K2 hK2 => ?_
 refine aa fun K3 hK3 => ?_
 refine bW hP hN Tryd.mixed rfl ?_
 iterate 9 (refine ad rfl fun K0 Y => ?_; simp only [zE, op1, ev, lkp, ah, ag, am, ay, Nat.mul_one, aw, ax, acs, Ty.dflt, zG, aq, aI, Ty.size, ne_eq, not_false_eq_true, Int.natCast_one, Int.mul_one, aF, bu, bh, ba, bb, bq, Nat.div_one, aK, bf, aL, dite_true, aC, aD, aE, ao, aB, aR, reduceCtorEq, G, E, J, V, M, U, Tryd.el22, Tryd.el25, Tryd.st47, Tryd.td2, Tryd.td22, Tryd.td25, Tryd.td3, Tryd.td4, Tryd.td47, Mly.av]; (repeat refine And.intro (by first | omega | assumption | exact rfl) ?_); (first | refine Y _ ?_ | refine Or.inl (Y _ ?_)); clear Y K0; simp only [put, app, a9, af, zE, zS, E])
 (refine ad rfl fun K0 Y => ?_; simp only [zE, op1, ev, lkp, ah, ag, ev, reduceCtorEq, G, E, J, V, M, U, Tryd.td4, Mly.av]; refine Y _ ?_; clear Y K0; simp only [put, app, a9, af, zE, zS, E])
 refine' aY (want := false) 9 rfl (m := 15) (by simp only [Z, lkp, zE, reduceCtorEq, G, a8, E]; exact rfl) (by kernel_rfl) rfl rfl rfl rfl rfl (fun hg4 => ?a4) ?b4 ?c4
 case a4 =>
  have hq4 := hg4; (try simp only [zB, reduceCtorEq] at hg4); simp only [List.take_succ_cons, List.take_zero, List.cons_append, List.nil_append]
  (refine ar rfl fun K0 Y => ?_; simp only [zE, op1, ev, lkp, ah, ag, am, reduceCtorEq, G, E, J, V, M, U, Tryd.st47, Tryd.td3, Tryd.td47, Mly.av]; (repeat refine And.intro (by first | omega | assumption | exact rfl) ?_); refine Y _ ?_; clear Y K0; simp only [put, app, a9, af, zE, zS, E])
  (refine ar rfl fun K0 Y => ?_; simp only [zE, op1, ev, lkp, ah, ag, ay, Nat.mul_one, aw, ax, acs, Ty.dflt, zG, aq, reduceCtorEq, G, E, J, V, M, U, Tryd.el22, Tryd.td22, Mly.av]; (repeat refine And.intro (by first | omega | assumption | exact rfl) ?_); refine Y _ ?_; clear Y K0; simp only [put, app, a9, af, zE, zS, E])
  (refine ar rfl fun K0 Y => ?_; simp only [zE, op1, ev, lkp, ah, ag, ev, reduceCtorEq, G, E, J, V, M, U, Tryd.td3, Mly.av]; refine Y _ ?_; clear Y K0; simp only [put, app, a9, af, zE, zS, E])
  (refine ar rfl fun K0 Y => ?_; simp only [zE, op1, ev, lkp, ah, ag, aI, zG, Ty.dflt, Ty.size, Nat.mul_one, ne_eq, not_false_eq_true, Int.natCast_one, Int.mul_one, reduceCtorEq, G, E, J, V, M, U, Tryd.el22, Tryd.td22, Mly.av]; (repeat refine And.intro (by first | omega | assumption | exact rfl) ?_); refine Y _ ?_; clear Y K0; simp only [put, app, a9, af, zE, zS, E])
  (refine ar rfl fun K0 Y => ?_; simp only [zE, op1, ev, lkp, ah, ag, ay, Nat.mul_one, aw, ax, acs, Ty.dflt, zG, aq, reduceCtorEq, G, E, J, V, M, U, Tryd.el25, Tryd.td25, Mly.av]; (repeat refine And.intro (by first | omega | assumption | exact rfl) ?_); refine Y _ ?_; clear Y K0; simp only [put, app, a9, af, zE, zS, E])
  (refine ar rfl fun K0 Y => ?_; simp only [zE, op1, ev, lkp, ah, ag, aF, bu, bh, ba, bb, bq, Nat.div_one, aK, bf, Ty.size, aL, dite_true, reduceCtorEq, G, E, J, V, M, U, Tryd.el25, Tryd.td25, Tryd.td3, Mly.av]; (repeat refine And.intro (by first | omega | assumption | exact rfl) ?_); (first | refine Y _ ?_ | refine Or.inl (Y _ ?_)); clear Y K0; simp only [put, app, a9, af, zE, zS, E])
  (refine ar rfl fun K0 Y => ?_; simp only [zE, op1, ev, lkp, ah, ag, am, reduceCtorEq, G, E, J, V, M, U, Tryd.st47, Tryd.td47, Mly.av]; (repeat refine And.intro (by first | omega | assumption | exact rfl) ?_); refine Y _ ?_; clear Y K0; simp only [put, app, a9, af, zE, zS, E])
  (refine ar rfl fun K0 Y => ?_; simp only [zE, op1, ev, lkp, ah, ag, ay, Nat.mul_one, aw, ax, acs, Ty.dflt, zG, aq, reduceCtorEq, G, E, J, V, M, U, Tryd.td3, Mly.av]; (repeat refine And.intro (by first | omega | assumption | exact rfl) ?_); refine Y _ ?_; clear Y K0; simp only [put, app, a9, af, zE, zS, E])
  (refine ar rfl fun K0 Y => ?_; simp only [zE, op1, ev, lkp, ah, ag, aC, aD, aE, ao, aB, aR, reduceCtorEq, G, E, J, V, M, U, Tryd.td3, Tryd.td4, Mly.av]; (repeat refine And.intro (by first | omega | assumption | exact rfl) ?_); refine Y _ ?_; clear Y K0; simp only [put, app, a9, af, zE, zS, E])
  (refine ad rfl fun K0 Y => ?_; simp only [zE, op1, ev, lkp, ah, ag, bt, reduceCtorEq, G, E, J, V, M, U, Tryd.td4, Mly.av]; refine Y _ ?_; clear Y K0; simp only [put, app, a9, af, zE, zS, E])
  refine ai ?_
  refine ⟨by simp only [Z, lkp, zE, reduceCtorEq, G, a8, E]; exact rfl, rfl, ?_, rfl⟩; (repeat refine aZ rfl ?_); exact bz (by exact rfl) hq4
 case b4 => exact bv (by first | rfl | (simp [bV]; done) | decide)
 simp only [bj, bg]
 refine ai ?_
 refine ⟨by kernel_rfl, ?_⟩
 refine hK3 _ ?_; clear hK3; refine ae [0, 1, 2, 4, 25] ?_; simp only [Z, lkp, zE, reduceCtorEq, G, a8, E]
 refine aG (by simp only [ev, Z, lkp, zE, reduceCtorEq, G, a8, E]; exact rfl) (fun hc5 => ?_) (fun hc5 => ?_)
 ·(try simp only [zB, reduceCtorEq] at hc5)
  refine aa fun K6 hK6 => ?_
  refine aj hP hN rfl ?_
  (refine ad rfl fun K0 Y => ?_; simp only [zE, op1, ev, lkp, ah, ag, ev, reduceCtorEq, G, E, J, V, M, U, Tryd.td3, Mly.av]; refine Y _ ?_; clear Y K0; simp only [put, app, a9, af, zE, zS, E])
  refine ai ?_
  refine hK6 _ ?_; clear hK6; refine ae [0, 1, 2, 4, 25] ?_; simp only [Z, lkp, zE, reduceCtorEq, G, a8, E]
  refine aP ?_
  refine ⟨by first | exact .inl rfl | exact .inr rfl, _, rfl, ?_⟩; simp only [fzV, fz1, fzC, List.map_cons, List.map_nil, Z, lkp, zE, reduceCtorEq, G, a8, E, Mly.av]
  refine VLE.of_eq ?_
  refine congrArg (fun n => AV.one (AC.int IntKind.i64 n)) ?_
  symm
  first
  | exact cd hc5
  | exact cf hc5.1 hc5.2 (j := j) (by omega) (by unfold bU; omega)
  | exact gQ hc5.1 hc5.2 fun a ha => hcells a (by omega)
 ·(try simp only [zB, reduceCtorEq] at hc5)
  refine aJ ?_
  refine hK2 _ ?_; clear hK2; refine ae [0, 1, 2, 4, 25] ?_; simp only [Z, lkp, zE, reduceCtorEq, G, a8, E]
  refine aa fun K7 hK7 => ?_
  refine aa fun K8 hK8 => ?_
  refine aj hP hN rfl ?_
  (refine ad rfl fun K0 Y => ?_; simp only [zE, op1, ev, lkp, ah, ag, ev, reduceCtorEq, G, E, J, V, M, U, Tryd.td3, Mly.av]; refine Y _ ?_; clear Y K0; simp only [put, app, a9, af, zE, zS, E])
  refine ai ?_
  refine hK8 _ ?_; clear hK8; refine ae [0, 1, 2, 4, 5, 25] ?_; simp only [Z, lkp, zE, reduceCtorEq, G, a8, E]
  refine aW ?_
  refine bM (fun n9 s9 => ∃ (j : Nat), (∀ a, a < j → ¬ bU m s a) ∧ (j ≤ m.inp.toNat) ∧ n9 = m.inp.toNat - j ∧ s9 = { env := [(1, .one (.int .i64 (s : Int))), (2, .one (.ptr 0 0 0 0)), (5, .one (.int .i64 (j : Int)))], L := [.vars 47 [.int .i64 m.inp, .int .i64 m.st, .list (.list (.int .i64)) m.nx, .list (.list (.int .i64)) m.ot]] }) ?_ ?_
  ·exact ⟨_, _, aS [1, 2, 5], 0, fun i hi => by omega, Nat.zero_le _, rfl, rfl⟩
  ·rintro n9 s9 ⟨j, hcells, hj, rfl, rfl⟩
   refine aa fun K10 hK10 => ?_
   refine aa fun K11 hK11 => ?_
   refine aj hP hN rfl ?_
   iterate 4 (refine ad rfl fun K0 Y => ?_; simp only [zE, op1, ev, lkp, ah, ag, am, ay, Nat.mul_one, aw, ax, acs, Ty.dflt, zG, aq, aC, aD, aE, ao, aB, aR, reduceCtorEq, G, E, J, V, M, U, Tryd.st47, Tryd.td3, Tryd.td4, Tryd.td47, Mly.av]; (repeat refine And.intro (by first | omega | assumption | exact rfl) ?_); refine Y _ ?_; clear Y K0; simp only [put, app, a9, af, zE, zS, E])
   refine ai ?_
   refine hK11 _ ?_; clear hK11; refine ae [1, 2, 5, 29] ?_; simp only [Z, lkp, zE, reduceCtorEq, G, a8, E]
   refine aG (by simp only [ev, Z, lkp, zE, reduceCtorEq, G, a8, E]; exact rfl) (fun hc12 => ?_) (fun hc12 => ?_)
   ·(try simp only [zB, reduceCtorEq] at hc12)
    refine aJ ?_
    refine hK10 _ ?_; clear hK10; refine ae [1, 2, 5, 29] ?_; simp only [Z, lkp, zE, reduceCtorEq, G, a8, E]
    refine aa fun K13 hK13 => ?_
    refine aW ?_
    refine aa fun K14 hK14 => ?_
    refine bW hP hN Tryd.mixed rfl ?_
    iterate 9 (refine ad rfl fun K0 Y => ?_; simp only [zE, op1, ev, lkp, ah, ag, am, ay, Nat.mul_one, aw, ax, acs, Ty.dflt, zG, aq, aI, Ty.size, ne_eq, not_false_eq_true, Int.natCast_one, Int.mul_one, aC, aD, aE, ao, aB, aR, reduceCtorEq, G, E, J, V, M, U, Tryd.el22, Tryd.el25, Tryd.st47, Tryd.td2, Tryd.td22, Tryd.td25, Tryd.td3, Tryd.td4, Tryd.td47, Mly.av]; (repeat refine And.intro (by first | omega | assumption | exact rfl) ?_); refine Y _ ?_; clear Y K0; simp only [put, app, a9, af, zE, zS, E])
    (refine ad rfl fun K0 Y => ?_; simp only [zE, op1, ev, lkp, ah, ag, ev, reduceCtorEq, G, E, J, V, M, U, Tryd.td4, Mly.av]; refine Y _ ?_; clear Y K0; simp only [put, app, a9, af, zE, zS, E])
    refine' aY (want := false) 12 rfl (m := 41) (by simp only [Z, lkp, zE, reduceCtorEq, G, a8, E]; exact rfl) (by kernel_rfl) rfl rfl rfl rfl rfl (fun hg15 => ?a15) ?b15 ?c15
    case a15 =>
     have hq15 := hg15; (try simp only [zB, reduceCtorEq] at hg15); simp only [List.take_succ_cons, List.take_zero, List.cons_append, List.nil_append]
     (refine ar rfl fun K0 Y => ?_; simp only [zE, op1, ev, lkp, ah, ag, am, reduceCtorEq, G, E, J, V, M, U, Tryd.st47, Tryd.td2, Tryd.td47, Mly.av]; (repeat refine And.intro (by first | omega | assumption | exact rfl) ?_); refine Y _ ?_; clear Y K0; simp only [put, app, a9, af, zE, zS, E])
     (refine ar rfl fun K0 Y => ?_; simp only [zE, op1, ev, lkp, ah, ag, ay, Nat.mul_one, aw, ax, acs, Ty.dflt, zG, aq, reduceCtorEq, G, E, J, V, M, U, Tryd.el22, Tryd.td22, Mly.av]; (repeat refine And.intro (by first | omega | assumption | exact rfl) ?_); refine Y _ ?_; clear Y K0; simp only [put, app, a9, af, zE, zS, E])
     (refine ar rfl fun K0 Y => ?_; simp only [zE, op1, ev, lkp, ah, ag, ev, reduceCtorEq, G, E, J, V, M, U, Tryd.td3, Mly.av]; refine Y _ ?_; clear Y K0; simp only [put, app, a9, af, zE, zS, E])
     (refine ar rfl fun K0 Y => ?_; simp only [zE, op1, ev, lkp, ah, ag, aI, zG, Ty.dflt, Ty.size, Nat.mul_one, ne_eq, not_false_eq_true, Int.natCast_one, Int.mul_one, reduceCtorEq, G, E, J, V, M, U, Tryd.el22, Tryd.td22, Mly.av]; (repeat refine And.intro (by first | omega | assumption | exact rfl) ?_); refine Y _ ?_; clear Y K0; simp only [put, app, a9, af, zE, zS, E])
     (refine ar rfl fun K0 Y => ?_; simp only [zE, op1, ev, lkp, ah, ag, ay, Nat.mul_one, aw, ax, acs, Ty.dflt, zG, aq, reduceCtorEq, G, E, J, V, M, U, Tryd.el25, Tryd.td25, Mly.av]; (repeat refine And.intro (by first | omega | assumption | exact rfl) ?_); refine Y _ ?_; clear Y K0; simp only [put, app, a9, af, zE, zS, E])
     (refine ar rfl fun K0 Y => ?_; simp only [zE, op1, ev, lkp, ah, ag, ev, reduceCtorEq, G, E, J, V, M, U, Tryd.td3, Mly.av]; refine Y _ ?_; clear Y K0; simp only [put, app, a9, af, zE, zS, E])
     (refine ar rfl fun K0 Y => ?_; simp only [zE, op1, ev, lkp, ah, ag, aI, zG, Ty.dflt, Ty.size, Nat.mul_one, ne_eq, not_false_eq_true, Int.natCast_one, Int.mul_one, reduceCtorEq, G, E, J, V, M, U, Tryd.el25, Tryd.td25, Mly.av]; (repeat refine And.intro (by first | omega | assumption | exact rfl) ?_); refine Y _ ?_; clear Y K0; simp only [put, app, a9, af, zE, zS, E])
     (refine ar rfl fun K0 Y => ?_; simp only [zE, op1, ev, lkp, ah, ag, ay, Nat.mul_one, aw, ax, acs, Ty.dflt, zG, aq, reduceCtorEq, G, E, J, V, M, U, Tryd.td3, Mly.av]; (repeat refine And.intro (by first | omega | assumption | exact rfl) ?_); refine Y _ ?_; clear Y K0; simp only [put, app, a9, af, zE, zS, E])
     (refine ar rfl fun K0 Y => ?_; simp only [zE, op1, ev, lkp, ah, ag, am, reduceCtorEq, G, E, J, V, M, U, Tryd.st47, Tryd.td2, Tryd.td47, Mly.av]; (repeat refine And.intro (by first | omega | assumption | exact rfl) ?_); refine Y _ ?_; clear Y K0; simp only [put, app, a9, af, zE, zS, E])
     (refine ar rfl fun K0 Y => ?_; simp only [zE, op1, ev, lkp, ah, ag, ay, Nat.mul_one, aw, ax, acs, Ty.dflt, zG, aq, reduceCtorEq, G, E, J, V, M, U, Tryd.el22, Tryd.td22, Mly.av]; (repeat refine And.intro (by first | omega | assumption | exact rfl) ?_); refine Y _ ?_; clear Y K0; simp only [put, app, a9, af, zE, zS, E])
     (refine ar rfl fun K0 Y => ?_; simp only [zE, op1, ev, lkp, ah, ag, aF, bu, bh, ba, bb, bq, Nat.div_one, aK, bf, Ty.size, aL, dite_true, reduceCtorEq, G, E, J, V, M, U, Tryd.el22, Tryd.td22, Tryd.td3, Mly.av]; (repeat refine And.intro (by first | omega | assumption | exact rfl) ?_); (first | refine Y _ ?_ | refine Or.inl (Y _ ?_)); clear Y K0; simp only [put, app, a9, af, zE, zS, E])
     (refine ar rfl fun K0 Y => ?_; simp only [zE, op1, ev, lkp, ah, ag, aC, aD, aE, ao, aB, aR, reduceCtorEq, G, E, J, V, M, U, Tryd.td3, Tryd.td4, Mly.av]; (repeat refine And.intro (by first | omega | assumption | exact rfl) ?_); refine Y _ ?_; clear Y K0; simp only [put, app, a9, af, zE, zS, E])
     (refine ad rfl fun K0 Y => ?_; simp only [zE, op1, ev, lkp, ah, ag, bt, reduceCtorEq, G, E, J, V, M, U, Tryd.td4, Mly.av]; refine Y _ ?_; clear Y K0; simp only [put, app, a9, af, zE, zS, E])
     refine ai ?_
     refine ⟨by simp only [Z, lkp, zE, reduceCtorEq, G, a8, E]; exact rfl, rfl, ?_, rfl⟩; (repeat refine aZ rfl ?_); exact bz (by exact rfl) hq15
    case b15 => exact bv (by first | rfl | (simp [bV]; done) | decide)
    simp only [bj, bg]
    (refine ad rfl fun K0 Y => ?_; simp only [zE, op1, ev, lkp, ah, ag, ev, reduceCtorEq, G, E, J, V, M, U, Tryd.td4, Mly.av]; refine Y _ ?_; clear Y K0; simp only [put, app, a9, af, zE, zS, E])
    refine' aY (want := false) 9 rfl (m := 55) (by simp only [Z, lkp, zE, reduceCtorEq, G, a8, E]; exact rfl) (by kernel_rfl) rfl rfl rfl rfl rfl (fun hg16 => ?a16) ?b16 ?c16
    case a16 =>
     have hq16 := hg16; (try simp only [zB, reduceCtorEq] at hg16); simp only [List.take_succ_cons, List.take_zero, List.cons_append, List.nil_append]
     (refine ar rfl fun K0 Y => ?_; simp only [zE, op1, ev, lkp, ah, ag, am, reduceCtorEq, G, E, J, V, M, U, Tryd.st47, Tryd.td3, Tryd.td47, Mly.av]; (repeat refine And.intro (by first | omega | assumption | exact rfl) ?_); refine Y _ ?_; clear Y K0; simp only [put, app, a9, af, zE, zS, E])
     (refine ar rfl fun K0 Y => ?_; simp only [zE, op1, ev, lkp, ah, ag, ay, Nat.mul_one, aw, ax, acs, Ty.dflt, zG, aq, reduceCtorEq, G, E, J, V, M, U, Tryd.el22, Tryd.td22, Mly.av]; (repeat refine And.intro (by first | omega | assumption | exact rfl) ?_); refine Y _ ?_; clear Y K0; simp only [put, app, a9, af, zE, zS, E])
     (refine ar rfl fun K0 Y => ?_; simp only [zE, op1, ev, lkp, ah, ag, ev, reduceCtorEq, G, E, J, V, M, U, Tryd.td3, Mly.av]; refine Y _ ?_; clear Y K0; simp only [put, app, a9, af, zE, zS, E])
     (refine ar rfl fun K0 Y => ?_; simp only [zE, op1, ev, lkp, ah, ag, aI, zG, Ty.dflt, Ty.size, Nat.mul_one, ne_eq, not_false_eq_true, Int.natCast_one, Int.mul_one, reduceCtorEq, G, E, J, V, M, U, Tryd.el22, Tryd.td22, Mly.av]; (repeat refine And.intro (by first | omega | assumption | exact rfl) ?_); refine Y _ ?_; clear Y K0; simp only [put, app, a9, af, zE, zS, E])
     (refine ar rfl fun K0 Y => ?_; simp only [zE, op1, ev, lkp, ah, ag, ay, Nat.mul_one, aw, ax, acs, Ty.dflt, zG, aq, reduceCtorEq, G, E, J, V, M, U, Tryd.el25, Tryd.td25, Mly.av]; (repeat refine And.intro (by first | omega | assumption | exact rfl) ?_); refine Y _ ?_; clear Y K0; simp only [put, app, a9, af, zE, zS, E])
     (refine ar rfl fun K0 Y => ?_; simp only [zE, op1, ev, lkp, ah, ag, ev, reduceCtorEq, G, E, J, V, M, U, Tryd.td3, Mly.av]; refine Y _ ?_; clear Y K0; simp only [put, app, a9, af, zE, zS, E])
     (refine ar rfl fun K0 Y => ?_; simp only [zE, op1, ev, lkp, ah, ag, aI, zG, Ty.dflt, Ty.size, Nat.mul_one, ne_eq, not_false_eq_true, Int.natCast_one, Int.mul_one, reduceCtorEq, G, E, J, V, M, U, Tryd.el25, Tryd.td25, Mly.av]; (repeat refine And.intro (by first | omega | assumption | exact rfl) ?_); refine Y _ ?_; clear Y K0; simp only [put, app, a9, af, zE, zS, E])
     (refine ar rfl fun K0 Y => ?_; simp only [zE, op1, ev, lkp, ah, ag, ay, Nat.mul_one, aw, ax, acs, Ty.dflt, zG, aq, reduceCtorEq, G, E, J, V, M, U, Tryd.td3, Mly.av]; (repeat refine And.intro (by first | omega | assumption | exact rfl) ?_); refine Y _ ?_; clear Y K0; simp only [put, app, a9, af, zE, zS, E])
     (refine ar rfl fun K0 Y => ?_; simp only [zE, op1, ev, lkp, ah, ag, aC, aD, aE, ao, aB, aR, reduceCtorEq, G, E, J, V, M, U, Tryd.td3, Tryd.td4, Mly.av]; (repeat refine And.intro (by first | omega | assumption | exact rfl) ?_); refine Y _ ?_; clear Y K0; simp only [put, app, a9, af, zE, zS, E])
     (refine ad rfl fun K0 Y => ?_; simp only [zE, op1, ev, lkp, ah, ag, bt, reduceCtorEq, G, E, J, V, M, U, Tryd.td4, Mly.av]; refine Y _ ?_; clear Y K0; simp only [put, app, a9, af, zE, zS, E])
     refine ai ?_
     refine ⟨by simp only [Z, lkp, zE, reduceCtorEq, G, a8, E]; exact rfl, rfl, ?_, rfl⟩; (repeat refine aZ rfl ?_); exact bz (by exact rfl) hq16
    case b16 => exact bv (by first | rfl | (simp [bV]; done) | decide)
    simp only [bj, bg]
    (refine ad rfl fun K0 Y => ?_; simp only [zE, op1, ev, lkp, ah, ag, ev, reduceCtorEq, G, E, J, V, M, U, Tryd.td4, Mly.av]; refine Y _ ?_; clear Y K0; simp only [put, app, a9, af, zE, zS, E])
    refine' aY (want := false) 9 rfl (m := 66) (by simp only [Z, lkp, zE, reduceCtorEq, G, a8, E]; exact rfl) (by kernel_rfl) rfl rfl rfl rfl rfl (fun hg17 => ?a17) ?b17 ?c17
    case a17 =>
     have hq17 := hg17; (try simp only [zB, reduceCtorEq] at hg17); simp only [List.take_succ_cons, List.take_zero, List.cons_append, List.nil_append]
     (refine ar rfl fun K0 Y => ?_; simp only [zE, op1, ev, lkp, ah, ag, am, reduceCtorEq, G, E, J, V, M, U, Tryd.st47, Tryd.td3, Tryd.td47, Mly.av]; (repeat refine And.intro (by first | omega | assumption | exact rfl) ?_); refine Y _ ?_; clear Y K0; simp only [put, app, a9, af, zE, zS, E])
     (refine ar rfl fun K0 Y => ?_; simp only [zE, op1, ev, lkp, ah, ag, ay, Nat.mul_one, aw, ax, acs, Ty.dflt, zG, aq, reduceCtorEq, G, E, J, V, M, U, Tryd.el22, Tryd.td22, Mly.av]; (repeat refine And.intro (by first | omega | assumption | exact rfl) ?_); refine Y _ ?_; clear Y K0; simp only [put, app, a9, af, zE, zS, E])
     (refine ar rfl fun K0 Y => ?_; simp only [zE, op1, ev, lkp, ah, ag, ev, reduceCtorEq, G, E, J, V, M, U, Tryd.td3, Mly.av]; refine Y _ ?_; clear Y K0; simp only [put, app, a9, af, zE, zS, E])
     (refine ar rfl fun K0 Y => ?_; simp only [zE, op1, ev, lkp, ah, ag, aI, zG, Ty.dflt, Ty.size, Nat.mul_one, ne_eq, not_false_eq_true, Int.natCast_one, Int.mul_one, reduceCtorEq, G, E, J, V, M, U, Tryd.el22, Tryd.td22, Mly.av]; (repeat refine And.intro (by first | omega | assumption | exact rfl) ?_); refine Y _ ?_; clear Y K0; simp only [put, app, a9, af, zE, zS, E])
     (refine ar rfl fun K0 Y => ?_; simp only [zE, op1, ev, lkp, ah, ag, ay, Nat.mul_one, aw, ax, acs, Ty.dflt, zG, aq, reduceCtorEq, G, E, J, V, M, U, Tryd.el25, Tryd.td25, Mly.av]; (repeat refine And.intro (by first | omega | assumption | exact rfl) ?_); refine Y _ ?_; clear Y K0; simp only [put, app, a9, af, zE, zS, E])
     (refine ar rfl fun K0 Y => ?_; simp only [zE, op1, ev, lkp, ah, ag, ev, reduceCtorEq, G, E, J, V, M, U, Tryd.td3, Mly.av]; refine Y _ ?_; clear Y K0; simp only [put, app, a9, af, zE, zS, E])
     (refine ar rfl fun K0 Y => ?_; simp only [zE, op1, ev, lkp, ah, ag, aI, zG, Ty.dflt, Ty.size, Nat.mul_one, ne_eq, not_false_eq_true, Int.natCast_one, Int.mul_one, reduceCtorEq, G, E, J, V, M, U, Tryd.el25, Tryd.td25, Mly.av]; (repeat refine And.intro (by first | omega | assumption | exact rfl) ?_); refine Y _ ?_; clear Y K0; simp only [put, app, a9, af, zE, zS, E])
     (refine ar rfl fun K0 Y => ?_; simp only [zE, op1, ev, lkp, ah, ag, ay, Nat.mul_one, aw, ax, acs, Ty.dflt, zG, aq, reduceCtorEq, G, E, J, V, M, U, Tryd.td3, Mly.av]; (repeat refine And.intro (by first | omega | assumption | exact rfl) ?_); refine Y _ ?_; clear Y K0; simp only [put, app, a9, af, zE, zS, E])
     (refine ar rfl fun K0 Y => ?_; simp only [zE, op1, ev, lkp, ah, ag, aC, aD, aE, ao, aB, aR, reduceCtorEq, G, E, J, V, M, U, Tryd.td3, Tryd.td4, Mly.av]; (repeat refine And.intro (by first | omega | assumption | exact rfl) ?_); refine Y _ ?_; clear Y K0; simp only [put, app, a9, af, zE, zS, E])
     (refine ad rfl fun K0 Y => ?_; simp only [zE, op1, ev, lkp, ah, ag, bt, reduceCtorEq, G, E, J, V, M, U, Tryd.td4, Mly.av]; refine Y _ ?_; clear Y K0; simp only [put, app, a9, af, zE, zS, E])
     refine ai ?_
     refine ⟨by simp only [Z, lkp, zE, reduceCtorEq, G, a8, E]; exact rfl, rfl, ?_, rfl⟩; (repeat refine aZ rfl ?_); exact bz (by exact rfl) hq17
    case b17 => exact bv (by first | rfl | (simp [bV]; done) | decide)
    simp only [bj, bg]
    refine ai ?_
    refine ⟨by kernel_rfl, ?_⟩
    refine hK14 _ ?_; clear hK14; refine ae [1, 2, 5, 29, 76] ?_; simp only [Z, lkp, zE, reduceCtorEq, G, a8, E]
    refine aG (by simp only [ev, Z, lkp, zE, reduceCtorEq, G, a8, E]; exact rfl) (fun hc18 => ?_) (fun hc18 => ?_)
    ·(try simp only [zB, reduceCtorEq] at hc18)
     refine aa fun K19 hK19 => ?_
     refine aj hP hN rfl ?_
     (refine ad rfl fun K0 Y => ?_; simp only [zE, op1, ev, lkp, ah, ag, ev, reduceCtorEq, G, E, J, V, M, U, Tryd.td3, Mly.av]; refine Y _ ?_; clear Y K0; simp only [put, app, a9, af, zE, zS, E])
     refine ai ?_
     refine hK19 _ ?_; clear hK19; refine ae [1, 2, 4, 5, 29, 76] ?_; simp only [Z, lkp, zE, reduceCtorEq, G, a8, E]
     refine aP ?_
     refine ⟨by first | exact .inl rfl | exact .inr rfl, _, rfl, ?_⟩; simp only [fzV, fz1, fzC, List.map_cons, List.map_nil, Z, lkp, zE, reduceCtorEq, G, a8, E, Mly.av]
     refine VLE.of_eq ?_
     refine congrArg (fun n => AV.one (AC.int IntKind.i64 n)) ?_
     symm
     first
     | exact cd hc5
     | exact cf hc5.1 hc5.2 (j := j) (by omega) (by unfold bU; omega)
     | exact gQ hc5.1 hc5.2 fun a ha => hcells a (by omega)
    ·(try simp only [zB, reduceCtorEq] at hc18)
     refine aJ ?_
     refine hK13 _ ?_; clear hK13; refine ae [1, 2, 5, 29, 76] ?_; simp only [Z, lkp, zE, reduceCtorEq, G, a8, E]
     refine aj hP hN rfl ?_
     iterate 3 (refine ad rfl fun K0 Y => ?_; simp only [zE, op1, ev, lkp, ah, ag, aC, aD, aE, ao, aB, aR, reduceCtorEq, G, E, J, V, M, U, Tryd.td3, Mly.av]; (repeat refine And.intro (by first | omega | assumption | exact rfl) ?_); refine Y _ ?_; clear Y K0; simp only [put, app, a9, af, zE, zS, E])
     refine ai ?_
     refine ⟨_, _, ?_, aS [1, 2, 5], j + 1, fun a ha => ?_, ?_, rfl, rfl⟩
     · omega
     · by_cases e : a = j
       · rw [e]; unfold bU; omega
       · exact hcells a (by omega)
     · omega
   ·(try simp only [zB, reduceCtorEq] at hc12)
    refine bK ?_
    refine hK7 _ ?_; clear hK7; refine ae [1, 2, 5, 29] ?_; simp only [Z, lkp, zE, reduceCtorEq, G, a8, E]
    refine aa fun K20 hK20 => ?_
    refine aj hP hN rfl ?_
    (refine ad rfl fun K0 Y => ?_; simp only [zE, op1, ev, lkp, ah, ag, ev, reduceCtorEq, G, E, J, V, M, U, Tryd.td3, Mly.av]; refine Y _ ?_; clear Y K0; simp only [put, app, a9, af, zE, zS, E])
    refine ai ?_
    refine hK20 _ ?_; clear hK20; refine ae [1, 2, 4, 5, 29] ?_; simp only [Z, lkp, zE, reduceCtorEq, G, a8, E]
    refine aP ?_
    refine ⟨by first | exact .inl rfl | exact .inr rfl, _, rfl, ?_⟩; simp only [fzV, fz1, fzC, List.map_cons, List.map_nil, Z, lkp, zE, reduceCtorEq, G, a8, E, Mly.av]
    refine VLE.of_eq ?_
    refine congrArg (fun n => AV.one (AC.int IntKind.i64 n)) ?_
    symm
    first
    | exact cd hc5
    | exact cf hc5.1 hc5.2 (j := j) (by omega) (by unfold bU; omega)
    | exact gQ hc5.1 hc5.2 fun a ha => hcells a (by omega)
end Go.Proofs.YtgmgnkmgofkfpaaDoor
namespace Go.Proofs.YtgmgnkmgofkfpaaDoor
open Go Go.AV
open Nat renaming reduceEqDiff → G, reduceAdd → E, reduceLeDiff → J, reduceLT → V, reduceMul → M, reduceSub → U
open List renaming set_cons_zero → aA, set_cons_succ → az
set_option maxRecDepth 100000 in
theorem oo (m : Mly) : ch Tryd.prog 27 [m.av] (.one (.int .i64 (cg m))) := by
 refine bp Tryd.func27 rfl (by kernel_rfl) (Nat.le_of_ble_eq_true rfl) rfl fun C hP hN hB => ?_
 replace hN : C.N = 52 := hN
 simp only [a8, E]
 refine aa fun K1 hK1 => ?_
 refine aj hP hN rfl ?_
 iterate 2 (refine ad rfl fun K0 Y => ?_; simp only [zE, op1, ev, lkp, ah, ag, cA, au, reduceCtorEq, G, E, J, V, M, U, Tryd.st47, Tryd.td3, Tryd.td47, Mly.av]; (repeat refine And.intro (by first | omega | assumption | exact rfl) ?_); refine Y _ ?_; clear Y K0; simp only [put, app, a9, af, zE, zS, E])
 refine ai ?_
 refine hK1 _ ?_; clear hK1; refine ae [0, 1, 2] ?_; simp only [Z, lkp, zE, reduceCtorEq, G, a8, E]
 refine aa fun K2 hK2 => ?_
 refine aa fun K3 hK3 => ?_
 refine aj hP hN rfl ?_
 iterate 3 (refine ad rfl fun K0 Y => ?_; simp only [zE, op1, ev, lkp, ah, ag, am, ay, Nat.mul_one, aw, ax, acs, Ty.dflt, zG, aq, aC, aD, aE, ao, aB, aR, reduceCtorEq, G, E, J, V, M, U, Tryd.st47, Tryd.td3, Tryd.td4, Tryd.td47, Mly.av]; (repeat refine And.intro (by first | omega | assumption | exact rfl) ?_); refine Y _ ?_; clear Y K0; simp only [put, app, a9, af, zE, zS, E])
 (refine ad rfl fun K0 Y => ?_; simp only [zE, op1, ev, lkp, ah, ag, ev, reduceCtorEq, G, E, J, V, M, U, Tryd.td4, Mly.av]; refine Y _ ?_; clear Y K0; simp only [put, app, a9, af, zE, zS, E])
 refine' aY (want := false) 3 rfl (m := 8) (by simp only [Z, lkp, zE, reduceCtorEq, G, a8, E]; exact rfl) (by kernel_rfl) rfl rfl rfl rfl rfl (fun hg4 => ?a4) ?b4 ?c4
 case a4 =>
  have hq4 := hg4; (try simp only [zB, reduceCtorEq] at hg4); simp only [List.take_succ_cons, List.take_zero, List.cons_append, List.nil_append]
  (refine ar rfl fun K0 Y => ?_; simp only [zE, op1, ev, lkp, ah, ag, am, reduceCtorEq, G, E, J, V, M, U, Tryd.st47, Tryd.td47, Mly.av]; (repeat refine And.intro (by first | omega | assumption | exact rfl) ?_); refine Y _ ?_; clear Y K0; simp only [put, app, a9, af, zE, zS, E])
  (refine ar rfl fun K0 Y => ?_; simp only [zE, op1, ev, lkp, ah, ag, ay, Nat.mul_one, aw, ax, acs, Ty.dflt, zG, aq, reduceCtorEq, G, E, J, V, M, U, Tryd.td3, Mly.av]; (repeat refine And.intro (by first | omega | assumption | exact rfl) ?_); refine Y _ ?_; clear Y K0; simp only [put, app, a9, af, zE, zS, E])
  (refine ar rfl fun K0 Y => ?_; simp only [zE, op1, ev, lkp, ah, ag, aC, aD, aE, ao, aB, aR, reduceCtorEq, G, E, J, V, M, U, Tryd.td3, Tryd.td4, Mly.av]; (repeat refine And.intro (by first | omega | assumption | exact rfl) ?_); refine Y _ ?_; clear Y K0; simp only [put, app, a9, af, zE, zS, E])
  (refine ad rfl fun K0 Y => ?_; simp only [zE, op1, ev, lkp, ah, ag, bt, reduceCtorEq, G, E, J, V, M, U, Tryd.td4, Mly.av]; refine Y _ ?_; clear Y K0; simp only [put, app, a9, af, zE, zS, E])
  refine ai ?_
  refine ⟨by simp only [Z, lkp, zE, reduceCtorEq, G, a8, E]; exact rfl, rfl, ?_, rfl⟩; (repeat refine aZ rfl ?_); exact bz (by exact rfl) hq4
 case b4 => exact bv (by first | rfl | (simp [bV]; done) | decide)
 simp only [bj, bg]
 refine ai ?_
 refine hK3 _ ?_; clear hK3; refine ae [0, 1, 2, 12] ?_; simp only [Z, lkp, zE, reduceCtorEq, G, a8, E]
 refine aG (by simp only [ev, Z, lkp, zE, reduceCtorEq, G, a8, E]; exact rfl) (fun hc5 => ?_) (fun hc5 => ?_)
 ·(try simp only [zB, reduceCtorEq] at hc5)
  refine aa fun K6 hK6 => ?_
  refine aj hP hN rfl ?_
  (refine ad rfl fun K0 Y => ?_; simp only [zE, op1, ev, lkp, ah, ag, ev, reduceCtorEq, G, E, J, V, M, U, Tryd.td3, Mly.av]; refine Y _ ?_; clear Y K0; simp only [put, app, a9, af, zE, zS, E])
  refine ai ?_
  refine hK6 _ ?_; clear hK6; refine ae [0, 1, 2, 12] ?_; simp only [Z, lkp, zE, reduceCtorEq, G, a8, E]
  refine aP ?_
  refine ⟨by first | exact .inl rfl | exact .inr rfl, _, rfl, ?_⟩; simp only [fzV, fz1, fzC, List.map_cons, List.map_nil, Z, lkp, zE, reduceCtorEq, G, a8, E, Mly.av]
  refine VLE.of_eq ?_
  refine congrArg (fun n => AV.one (AC.int IntKind.i64 n)) ?_
  symm
  unfold cg
  first
  | (rw [if_pos (by omega)]; done)
  | (rw [if_neg (by omega), if_pos (by omega)]; done)
  | (rw [if_neg (by omega), if_neg (by omega), if_pos (by omega)]; done)
  | (rw [if_neg (by omega), if_neg (by omega), if_neg (by omega), if_pos (by omega)]; done)
  | (rw [if_neg (by omega), if_neg (by omega), if_neg (by omega), if_neg (by omega), if_pos (by omega)]; done)
  | (rw [if_neg (by omega), if_neg (by omega), if_neg (by omega), if_neg (by omega), if_neg (by omega)]
     first
     | exact aX hrows (by omega) (by assumption)
     | exact bD fun i hi => hrows i (by omega))
 ·(try simp only [zB, reduceCtorEq] at hc5)
  refine aJ ?_
  refine hK2 _ ?_; clear hK2; refine ae [0, 1, 2, 12] ?_; simp only [Z, lkp, zE, reduceCtorEq, G, a8, E]
  refine aa fun K7 hK7 => ?_
  refine aa fun K8 hK8 => ?_
  refine aj hP hN rfl ?_
  iterate 4 (refine ad rfl fun K0 Y => ?_; simp only [zE, op1, ev, lkp, ah, ag, am, ay, Nat.mul_one, aw, ax, acs, Ty.dflt, zG, aq, aF, bu, bh, ba, bb, bq, Nat.div_one, aK, bf, Ty.size, aL, dite_true, aC, aD, aE, ao, aB, aR, reduceCtorEq, G, E, J, V, M, U, Tryd.el22, Tryd.st47, Tryd.td2, Tryd.td22, Tryd.td3, Tryd.td4, Tryd.td47, Mly.av]; (repeat refine And.intro (by first | omega | assumption | exact rfl) ?_); (first | refine Y _ ?_ | refine Or.inl (Y _ ?_)); clear Y K0; simp only [put, app, a9, af, zE, zS, E])
  refine ai ?_
  refine hK8 _ ?_; clear hK8; refine ae [0, 1, 2, 12, 16] ?_; simp only [Z, lkp, zE, reduceCtorEq, G, a8, E]
  refine aG (by simp only [ev, Z, lkp, zE, reduceCtorEq, G, a8, E]; exact rfl) (fun hc9 => ?_) (fun hc9 => ?_)
  ·(try simp only [zB, reduceCtorEq] at hc9)
   refine aa fun K10 hK10 => ?_
   refine aj hP hN rfl ?_
   (refine ad rfl fun K0 Y => ?_; simp only [zE, op1, ev, lkp, ah, ag, ev, reduceCtorEq, G, E, J, V, M, U, Tryd.td3, Mly.av]; refine Y _ ?_; clear Y K0; simp only [put, app, a9, af, zE, zS, E])
   refine ai ?_
   refine hK10 _ ?_; clear hK10; refine ae [0, 1, 2, 12, 16] ?_; simp only [Z, lkp, zE, reduceCtorEq, G, a8, E]
   refine aP ?_
   refine ⟨by first | exact .inl rfl | exact .inr rfl, _, rfl, ?_⟩; simp only [fzV, fz1, fzC, List.map_cons, List.map_nil, Z, lkp, zE, reduceCtorEq, G, a8, E, Mly.av]
   refine VLE.of_eq ?_
   refine congrArg (fun n => AV.one (AC.int IntKind.i64 n)) ?_
   symm
   unfold cg
   first
   | (rw [if_pos (by omega)]; done)
   | (rw [if_neg (by omega), if_pos (by omega)]; done)
   | (rw [if_neg (by omega), if_neg (by omega), if_pos (by omega)]; done)
   | (rw [if_neg (by omega), if_neg (by omega), if_neg (by omega), if_pos (by omega)]; done)
   | (rw [if_neg (by omega), if_neg (by omega), if_neg (by omega), if_neg (by omega), if_pos (by omega)]; done)
   | (rw [if_neg (by omega), if_neg (by omega), if_neg (by omega), if_neg (by omega), if_neg (by omega)]
      first
      | exact aX hrows (by omega) (by assumption)
      | exact bD fun i hi => hrows i (by omega))
  ·(try simp only [zB, reduceCtorEq] at hc9)
   refine aJ ?_
   refine hK7 _ ?_; clear hK7; refine ae [0, 1, 2, 12, 16] ?_; simp only [Z, lkp, zE, reduceCtorEq, G, a8, E]
   refine aa fun K11 hK11 => ?_
   refine aa fun K12 hK12 => ?_
   refine aj hP hN rfl ?_
   iterate 4 (refine ad rfl fun K0 Y => ?_; simp only [zE, op1, ev, lkp, ah, ag, am, ay, Nat.mul_one, aw, ax, acs, Ty.dflt, zG, aq, aF, bu, bh, ba, bb, bq, Nat.div_one, aK, bf, Ty.size, aL, dite_true, aC, aD, aE, ao, aB, aR, reduceCtorEq, G, E, J, V, M, U, Tryd.el22, Tryd.st47, Tryd.td2, Tryd.td22, Tryd.td3, Tryd.td4, Tryd.td47, Mly.av]; (repeat refine And.intro (by first | omega | assumption | exact rfl) ?_); (first | refine Y _ ?_ | refine Or.inl (Y _ ?_)); clear Y K0; simp only [put, app, a9, af, zE, zS, E])
   refine ai ?_
   refine hK12 _ ?_; clear hK12; refine ae [0, 1, 2, 12, 16, 20] ?_; simp only [Z, lkp, zE, reduceCtorEq, G, a8, E]
   refine aG (by simp only [ev, Z, lkp, zE, reduceCtorEq, G, a8, E]; exact rfl) (fun hc13 => ?_) (fun hc13 => ?_)
   ·(try simp only [zB, reduceCtorEq] at hc13)
    refine aa fun K14 hK14 => ?_
    refine aj hP hN rfl ?_
    (refine ad rfl fun K0 Y => ?_; simp only [zE, op1, ev, lkp, ah, ag, ev, reduceCtorEq, G, E, J, V, M, U, Tryd.td3, Mly.av]; refine Y _ ?_; clear Y K0; simp only [put, app, a9, af, zE, zS, E])
    refine ai ?_
    refine hK14 _ ?_; clear hK14; refine ae [0, 1, 2, 12, 16, 20] ?_; simp only [Z, lkp, zE, reduceCtorEq, G, a8, E]
    refine aP ?_
    refine ⟨by first | exact .inl rfl | exact .inr rfl, _, rfl, ?_⟩; simp only [fzV, fz1, fzC, List.map_cons, List.map_nil, Z, lkp, zE, reduceCtorEq, G, a8, E, Mly.av]
    refine VLE.of_eq ?_
    refine congrArg (fun n => AV.one (AC.int IntKind.i64 n)) ?_
    symm
    unfold cg
    first
    | (rw [if_pos (by omega)]; done)
    | (rw [if_neg (by omega), if_pos (by omega)]; done)
    | (rw [if_neg (by omega), if_neg (by omega), if_pos (by omega)]; done)
    | (rw [if_neg (by omega), if_neg (by omega), if_neg (by omega), if_pos (by omega)]; done)
    | (rw [if_neg (by omega), if_neg (by omega), if_neg (by omega), if_neg (by omega), if_pos (by omega)]; done)
    | (rw [if_neg (by omega), if_neg (by omega), if_neg (by omega), if_neg (by omega), if_neg (by omega)]
       first
       | exact aX hrows (by omega) (by assumption)
       | exact bD fun i hi => hrows i (by omega))
   ·(try simp only [zB, reduceCtorEq] at hc13)
    refine aJ ?_
    refine hK11 _ ?_; clear hK11; refine ae [0, 1, 2, 12, 16, 20] ?_; simp only [Z, lkp, zE, reduceCtorEq, G, a8, E]
    refine aa fun K15 hK15 => ?_
    refine aa fun K16 hK16 => ?_
    refine aj hP hN rfl ?_
    iterate 3 (refine ad rfl fun K0 Y => ?_; simp only [zE, op1, ev, lkp, ah, ag, am, ay, Nat.mul_one, aw, ax, acs, Ty.dflt, zG, aq, aC, aD, aE, ao, aB, aR, reduceCtorEq, G, E, J, V, M, U, Tryd.st47, Tryd.td1, Tryd.td3, Tryd.td4, Tryd.td47, Mly.av]; (repeat refine And.intro (by first | omega | assumption | exact rfl) ?_); refine Y _ ?_; clear Y K0; simp only [put, app, a9, af, zE, zS, E])
    (refine ad rfl fun K0 Y => ?_; simp only [zE, op1, ev, lkp, ah, ag, ev, reduceCtorEq, G, E, J, V, M, U, Tryd.td4, Mly.av]; refine Y _ ?_; clear Y K0; simp only [put, app, a9, af, zE, zS, E])
    refine' aY (want := false) 6 rfl (m := 24) (by simp only [Z, lkp, zE, reduceCtorEq, G, a8, E]; exact rfl) (by kernel_rfl) rfl rfl rfl rfl rfl (fun hg17 => ?a17) ?b17 ?c17
    case a17 =>
     have hq17 := hg17; (try simp only [zB, reduceCtorEq] at hg17); simp only [List.take_succ_cons, List.take_zero, List.cons_append, List.nil_append]
     (refine ar rfl fun K0 Y => ?_; simp only [zE, op1, ev, lkp, ah, ag, am, reduceCtorEq, G, E, J, V, M, U, Tryd.st47, Tryd.td1, Tryd.td47, Mly.av]; (repeat refine And.intro (by first | omega | assumption | exact rfl) ?_); refine Y _ ?_; clear Y K0; simp only [put, app, a9, af, zE, zS, E])
     (refine ar rfl fun K0 Y => ?_; simp only [zE, op1, ev, lkp, ah, ag, ay, Nat.mul_one, aw, ax, acs, Ty.dflt, zG, aq, reduceCtorEq, G, E, J, V, M, U, Tryd.td3, Mly.av]; (repeat refine And.intro (by first | omega | assumption | exact rfl) ?_); refine Y _ ?_; clear Y K0; simp only [put, app, a9, af, zE, zS, E])
     (refine ar rfl fun K0 Y => ?_; simp only [zE, op1, ev, lkp, ah, ag, am, reduceCtorEq, G, E, J, V, M, U, Tryd.st47, Tryd.td2, Tryd.td47, Mly.av]; (repeat refine And.intro (by first | omega | assumption | exact rfl) ?_); refine Y _ ?_; clear Y K0; simp only [put, app, a9, af, zE, zS, E])
     (refine ar rfl fun K0 Y => ?_; simp only [zE, op1, ev, lkp, ah, ag, ay, Nat.mul_one, aw, ax, acs, Ty.dflt, zG, aq, reduceCtorEq, G, E, J, V, M, U, Tryd.el22, Tryd.td22, Mly.av]; (repeat refine And.intro (by first | omega | assumption | exact rfl) ?_); refine Y _ ?_; clear Y K0; simp only [put, app, a9, af, zE, zS, E])
     (refine ar rfl fun K0 Y => ?_; simp only [zE, op1, ev, lkp, ah, ag, aF, bu, bh, ba, bb, bq, Nat.div_one, aK, bf, Ty.size, aL, dite_true, reduceCtorEq, G, E, J, V, M, U, Tryd.el22, Tryd.td22, Tryd.td3, Mly.av]; (repeat refine And.intro (by first | omega | assumption | exact rfl) ?_); (first | refine Y _ ?_ | refine Or.inl (Y _ ?_)); clear Y K0; simp only [put, app, a9, af, zE, zS, E])
     (refine ar rfl fun K0 Y => ?_; simp only [zE, op1, ev, lkp, ah, ag, aC, aD, aE, ao, aB, aR, reduceCtorEq, G, E, J, V, M, U, Tryd.td3, Tryd.td4, Mly.av]; (repeat refine And.intro (by first | omega | assumption | exact rfl) ?_); refine Y _ ?_; clear Y K0; simp only [put, app, a9, af, zE, zS, E])
     (refine ad rfl fun K0 Y => ?_; simp only [zE, op1, ev, lkp, ah, ag, bt, reduceCtorEq, G, E, J, V, M, U, Tryd.td4, Mly.av]; refine Y _ ?_; clear Y K0; simp only [put, app, a9, af, zE, zS, E])
     refine ai ?_
     refine ⟨by simp only [Z, lkp, zE, reduceCtorEq, G, a8, E]; exact rfl, rfl, ?_, rfl⟩; (repeat refine aZ rfl ?_); exact bz (by exact rfl) hq17
    case b17 => exact bv (by first | rfl | (simp [bV]; done) | decide)
    simp only [bj, bg]
    refine ai ?_
    refine hK16 _ ?_; clear hK16; refine ae [0, 1, 2, 12, 16, 20, 31] ?_; simp only [Z, lkp, zE, reduceCtorEq, G, a8, E]
    refine aG (by simp only [ev, Z, lkp, zE, reduceCtorEq, G, a8, E]; exact rfl) (fun hc18 => ?_) (fun hc18 => ?_)
    ·(try simp only [zB, reduceCtorEq] at hc18)
     refine aa fun K19 hK19 => ?_
     refine aj hP hN rfl ?_
     (refine ad rfl fun K0 Y => ?_; simp only [zE, op1, ev, lkp, ah, ag, ev, reduceCtorEq, G, E, J, V, M, U, Tryd.td3, Mly.av]; refine Y _ ?_; clear Y K0; simp only [put, app, a9, af, zE, zS, E])
     refine ai ?_
     refine hK19 _ ?_; clear hK19; refine ae [0, 1, 2, 12, 16, 20, 31] ?_; simp only [Z, lkp, zE, reduceCtorEq, G, a8, E]
     refine aP ?_
     refine ⟨by first | exact .inl rfl | exact .inr rfl, _, rfl, ?_⟩; simp only [fzV, fz1, fzC, List.map_cons, List.map_nil, Z, lkp, zE, reduceCtorEq, G, a8, E, Mly.av]
     refine VLE.of_eq ?_
     refine congrArg (fun n => AV.one (AC.int IntKind.i64 n)) ?_
     symm
     unfold cg
     first
     | (rw [if_pos (by omega)]; done)
     | (rw [if_neg (by omega), if_pos (by omega)]; done)
     | (rw [if_neg (by omega), if_neg (by omega), if_pos (by omega)]; done)
     | (rw [if_neg (by omega), if_neg (by omega), if_neg (by omega), if_pos (by omega)]; done)
     | (rw [if_neg (by omega), if_neg (by omega), if_neg (by omega), if_neg (by omega), if_pos (by omega)]; done)
     | (rw [if_neg (by omega), if_neg (by omega), if_neg (by omega), if_neg (by omega), if_neg (by omega)]
        first
        | exact aX hrows (by omega) (by assumption)
        | exact bD fun i hi => hrows i (by omega))
    ·(try simp only [zB, reduceCtorEq] at hc18)
     refine aJ ?_
     refine hK15 _ ?_; clear hK15; refine ae [0, 1, 2, 12, 16, 20, 31] ?_; simp only [Z, lkp, zE, reduceCtorEq, G, a8, E]
     refine aa fun K20 hK20 => ?_
     refine aa fun K21 hK21 => ?_
     refine aj hP hN rfl ?_
     iterate 7 (refine ad rfl fun K0 Y => ?_; simp only [zE, op1, ev, lkp, ah, ag, am, ay, Nat.mul_one, aw, ax, acs, Ty.dflt, zG, aq, aF, bu, bh, ba, bb, bq, Nat.div_one, aK, bf, Ty.size, aL, dite_true, aC, aD, aE, ao, aB, aR, reduceCtorEq, G, E, J, V, M, U, Tryd.el22, Tryd.st47, Tryd.td2, Tryd.td22, Tryd.td3, Tryd.td4, Tryd.td47, Mly.av]; (repeat refine And.intro (by first | omega | assumption | exact rfl) ?_); (first | refine Y _ ?_ | refine Or.inl (Y _ ?_)); clear Y K0; simp only [put, app, a9, af, zE, zS, E])
     refine ai ?_
     refine hK21 _ ?_; clear hK21; refine ae [0, 1, 2, 12, 16, 20, 31, 38] ?_; simp only [Z, lkp, zE, reduceCtorEq, G, a8, E]
     refine aG (by simp only [ev, Z, lkp, zE, reduceCtorEq, G, a8, E]; exact rfl) (fun hc22 => ?_) (fun hc22 => ?_)
     ·(try simp only [zB, reduceCtorEq] at hc22)
      refine aa fun K23 hK23 => ?_
      refine aj hP hN rfl ?_
      (refine ad rfl fun K0 Y => ?_; simp only [zE, op1, ev, lkp, ah, ag, ev, reduceCtorEq, G, E, J, V, M, U, Tryd.td3, Mly.av]; refine Y _ ?_; clear Y K0; simp only [put, app, a9, af, zE, zS, E])
      refine ai ?_
      refine hK23 _ ?_; clear hK23; refine ae [0, 1, 2, 12, 16, 20, 31, 38] ?_; simp only [Z, lkp, zE, reduceCtorEq, G, a8, E]
      refine aP ?_
      refine ⟨by first | exact .inl rfl | exact .inr rfl, _, rfl, ?_⟩; simp only [fzV, fz1, fzC, List.map_cons, List.map_nil, Z, lkp, zE, reduceCtorEq, G, a8, E, Mly.av]
      refine VLE.of_eq ?_
      refine congrArg (fun n => AV.one (AC.int IntKind.i64 n)) ?_
      symm
      unfold cg
      first
      | (rw [if_pos (by omega)]; done)
      | (rw [if_neg (by omega), if_pos (by omega)]; done)
      | (rw [if_neg (by omega), if_neg (by omega), if_pos (by omega)]; done)
      | (rw [if_neg (by omega), if_neg (by omega), if_neg (by omega), if_pos (by omega)]; done)
      | (rw [if_neg (by omega), if_neg (by omega), if_neg (by omega), if_neg (by omega), if_pos (by omega)]; done)
      | (rw [if_neg (by omega), if_neg (by omega), if_neg (by omega), if_neg (by omega), if_neg (by omega)]
         first
         | exact aX hrows (by omega) (by assumption)
         | exact bD fun i hi => hrows i (by omega))
     ·(try simp only [zB, reduceCtorEq] at hc22)
      refine aJ ?_
      refine hK20 _ ?_; clear hK20; refine ae [0, 1, 2, 12, 16, 20, 31, 38] ?_; simp only [Z, lkp, zE, reduceCtorEq, G, a8, E]
      refine aa fun K24 hK24 => ?_
      refine aa fun K25 hK25 => ?_
      refine aj hP hN rfl ?_
      (refine ad rfl fun K0 Y => ?_; simp only [zE, op1, ev, lkp, ah, ag, ev, reduceCtorEq, G, E, J, V, M, U, Tryd.td3, Mly.av]; refine Y _ ?_; clear Y K0; simp only [put, app, a9, af, zE, zS, E])
      refine ai ?_
      refine hK25 _ ?_; clear hK25; refine ae [0, 1, 2, 3, 12, 16, 20, 31, 38] ?_; simp only [Z, lkp, zE, reduceCtorEq, G, a8, E]
      refine aW ?_
      refine bM (fun n26 s26 => ∃ (k : Nat), (k ≤ m.nx.length) ∧ (∀ i, i < k → fu m i = 0) ∧ n26 = m.nx.length - k ∧ s26 = { env := [(1, .one (.ptr 0 0 0 0)), (3, .one (.int .i64 (k : Int)))], L := [.vars 47 [.int .i64 m.inp, .int .i64 m.st, .list (.list (.int .i64)) m.nx, .list (.list (.int .i64)) m.ot]] }) ?_ ?_
      ·exact ⟨_, _, aS [1, 3], 0, Nat.zero_le _, fun i hi => by omega, rfl, rfl⟩
      ·rintro n26 s26 ⟨k, hk, hrows, rfl, rfl⟩
       refine aa fun K27 hK27 => ?_
       refine aa fun K28 hK28 => ?_
       refine aj hP hN rfl ?_
       iterate 5 (refine ad rfl fun K0 Y => ?_; simp only [zE, op1, ev, lkp, ah, ag, am, ay, Nat.mul_one, aw, ax, acs, Ty.dflt, zG, aq, aF, bu, bh, ba, bb, bq, Nat.div_one, aK, bf, Ty.size, aL, dite_true, aC, aD, aE, ao, aB, aR, reduceCtorEq, G, E, J, V, M, U, Tryd.el22, Tryd.st47, Tryd.td2, Tryd.td22, Tryd.td3, Tryd.td4, Tryd.td47, Mly.av]; (repeat refine And.intro (by first | omega | assumption | exact rfl) ?_); (first | refine Y _ ?_ | refine Or.inl (Y _ ?_)); clear Y K0; simp only [put, app, a9, af, zE, zS, E])
       refine ai ?_
       refine hK28 _ ?_; clear hK28; refine ae [1, 3, 43] ?_; simp only [Z, lkp, zE, reduceCtorEq, G, a8, E]
       refine aG (by simp only [ev, Z, lkp, zE, reduceCtorEq, G, a8, E]; exact rfl) (fun hc29 => ?_) (fun hc29 => ?_)
       ·(try simp only [zB, reduceCtorEq] at hc29)
        refine aJ ?_
        refine hK27 _ ?_; clear hK27; refine ae [1, 3, 43] ?_; simp only [Z, lkp, zE, reduceCtorEq, G, a8, E]
        refine aa fun K30 hK30 => ?_
        refine aW ?_
        refine aa fun K31 hK31 => ?_
        refine aj hP hN rfl ?_
        iterate 2 (refine ad rfl fun K0 Y => ?_; simp only [zE, op1, ev, lkp, ah, ag, ay, Nat.mul_one, aw, ax, acs, Ty.dflt, zG, aq, reduceCtorEq, G, E, J, V, M, U, Tryd.st47, Tryd.td3, Tryd.td47, Mly.av]; (repeat refine And.intro (by first | omega | assumption | exact rfl) ?_); refine Y _ ?_; clear Y K0; simp only [put, app, a9, af, zE, zS, E])
        refine ad rfl fun K0 Y => ?_
        refine bc (h := aU (rj m k (by omega) (by omega) (by omega))) rfl rfl (by first | exact rfl | (simp only [ev, Z, lkp, zE, reduceCtorEq, G, a8, E]; exact rfl)) (by simp only [zE, zG, op1, ev, lkp, ah, ag, au, acs, br, mv1, mvC, Ty.dflt, reduceCtorEq, G, E, J, V, M, U, Mly.av]) ?_
        refine Y _ ?_; clear Y K0; simp only [put, app, a9, af, zE, zS, E]
        (refine ad rfl fun K0 Y => ?_; simp only [zE, op1, ev, lkp, ah, ag, ev, reduceCtorEq, G, E, J, V, M, U, Tryd.td3, Mly.av]; refine Y _ ?_; clear Y K0; simp only [put, app, a9, af, zE, zS, E])
        refine ai ?_
        refine hK31 _ ?_; clear hK31; refine ae [1, 3, 4, 43] ?_; simp only [Z, lkp, zE, reduceCtorEq, G, a8, E]
        refine aa fun K32 hK32 => ?_
        refine aj hP hN rfl ?_
        iterate 2 (refine ad rfl fun K0 Y => ?_; simp only [zE, op1, ev, lkp, ah, ag, aC, aD, aE, ao, aB, aR, reduceCtorEq, G, E, J, V, M, U, Tryd.td3, Tryd.td4, Mly.av]; (repeat refine And.intro (by first | omega | assumption | exact rfl) ?_); refine Y _ ?_; clear Y K0; simp only [put, app, a9, af, zE, zS, E])
        refine ai ?_
        refine hK32 _ ?_; clear hK32; refine ae [1, 3, 4, 43, 50] ?_; simp only [Z, lkp, zE, reduceCtorEq, G, a8, E]
        refine aG (by simp only [ev, Z, lkp, zE, reduceCtorEq, G, a8, E]; exact rfl) (fun hc33 => ?_) (fun hc33 => ?_)
        ·(try simp only [zB, reduceCtorEq] at hc33)
         refine aa fun K34 hK34 => ?_
         refine aj hP hN rfl ?_
         iterate 2 (refine ad rfl fun K0 Y => ?_; simp only [zE, op1, ev, lkp, ah, ag, ev, reduceCtorEq, G, E, J, V, M, U, Tryd.td3, Mly.av]; refine Y _ ?_; clear Y K0; simp only [put, app, a9, af, zE, zS, E])
         refine ai ?_
         refine hK34 _ ?_; clear hK34; refine ae [1, 2, 3, 4, 43, 50] ?_; simp only [Z, lkp, zE, reduceCtorEq, G, a8, E]
         refine aP ?_
         refine ⟨by first | exact .inl rfl | exact .inr rfl, _, rfl, ?_⟩; simp only [fzV, fz1, fzC, List.map_cons, List.map_nil, Z, lkp, zE, reduceCtorEq, G, a8, E, Mly.av]
         refine VLE.of_eq ?_
         refine congrArg (fun n => AV.one (AC.int IntKind.i64 n)) ?_
         symm
         unfold cg
         first
         | (rw [if_pos (by omega)]; done)
         | (rw [if_neg (by omega), if_pos (by omega)]; done)
         | (rw [if_neg (by omega), if_neg (by omega), if_pos (by omega)]; done)
         | (rw [if_neg (by omega), if_neg (by omega), if_neg (by omega), if_pos (by omega)]; done)
         | (rw [if_neg (by omega), if_neg (by omega), if_neg (by omega), if_neg (by omega), if_pos (by omega)]; done)
         | (rw [if_neg (by omega), if_neg (by omega), if_neg (by omega), if_neg (by omega), if_neg (by omega)]
            first
            | exact aX hrows (by omega) (by assumption)
            | exact bD fun i hi => hrows i (by omega))
        ·(try simp only [zB, reduceCtorEq] at hc33)
         refine aJ ?_
         refine hK30 _ ?_; clear hK30; refine ae [1, 3, 4, 43, 50] ?_; simp only [Z, lkp, zE, reduceCtorEq, G, a8, E]
         refine aj hP hN rfl ?_
         iterate 3 (refine ad rfl fun K0 Y => ?_; simp only [zE, op1, ev, lkp, ah, ag, aC, aD, aE, ao, aB, aR, reduceCtorEq, G, E, J, V, M, U, Tryd.td3, Mly.av]; (repeat refine And.intro (by first | omega | assumption | exact rfl) ?_); refine Y _ ?_; clear Y K0; simp only [put, app, a9, af, zE, zS, E])
         refine ai ?_
         refine ⟨_, _, ?_, aS [1, 3], k + 1, by omega, fun i hi => ?_, rfl, rfl⟩
         · omega
         · by_cases e : i = k
           · rw [e]; first | assumption | omega
           · exact hrows i (by omega)
       ·(try simp only [zB, reduceCtorEq] at hc29)
        refine bK ?_
        refine hK24 _ ?_; clear hK24; refine ae [1, 3, 43] ?_; simp only [Z, lkp, zE, reduceCtorEq, G, a8, E]
        refine aa fun K35 hK35 => ?_
        refine aj hP hN rfl ?_
        (refine ad rfl fun K0 Y => ?_; simp only [zE, op1, ev, lkp, ah, ag, ev, reduceCtorEq, G, E, J, V, M, U, Tryd.td3, Mly.av]; refine Y _ ?_; clear Y K0; simp only [put, app, a9, af, zE, zS, E])
        refine ai ?_
        refine hK35 _ ?_; clear hK35; refine ae [1, 2, 3, 43] ?_; simp only [Z, lkp, zE, reduceCtorEq, G, a8, E]
        refine aP ?_
        refine ⟨by first | exact .inl rfl | exact .inr rfl, _, rfl, ?_⟩; simp only [fzV, fz1, fzC, List.map_cons, List.map_nil, Z, lkp, zE, reduceCtorEq, G, a8, E, Mly.av]
        refine VLE.of_eq ?_
        refine congrArg (fun n => AV.one (AC.int IntKind.i64 n)) ?_
        symm
        unfold cg
        first
        | (rw [if_pos (by omega)]; done)
        | (rw [if_neg (by omega), if_pos (by omega)]; done)
        | (rw [if_neg (by omega), if_neg (by omega), if_pos (by omega)]; done)
        | (rw [if_neg (by omega), if_neg (by omega), if_neg (by omega), if_pos (by omega)]; done)
        | (rw [if_neg (by omega), if_neg (by omega), if_neg (by omega), if_neg (by omega), if_pos (by omega)]; done)
        | (rw [if_neg (by omega), if_neg (by omega), if_neg (by omega), if_neg (by omega), if_neg (by omega)]
           first
           | exact aX hrows (by omega) (by assumption)
           | exact bD fun i hi => hrows i (by omega))
end Go.Proofs.YtgmgnkmgofkfpaaDoor
namespace Go.Proofs.YtgmgnkmgofkfpaaDoor
open Go Go.AV
open Nat renaming reduceEqDiff → G, reduceAdd → E, reduceLeDiff → J, reduceLT → V, reduceMul → M, reduceSub → U
open List renaming set_cons_zero → aA, set_cons_succ → az
set_option maxRecDepth 100000 in
set_option maxHeartbeats 2000000 in
theorem qG (m : Mly) (p : Mpr) : ch Tryd.prog 23 [m.av, p.av] ((mdl m p).av) := by
 refine bp Tryd.func23 rfl (by kernel_rfl) (Nat.le_of_ble_eq_true rfl) rfl fun C hP hN hB => ?_
 replace hN : C.N = 146 := hN
 simp only [a8, E]
 refine aa fun K1 hK1 => ?_
 refine aj hP hN rfl ?_
 iterate 6 (refine ad rfl fun K0 Y => ?_; simp only [zE, op1, ev, lkp, ah, ag, cA, au, co, reduceCtorEq, G, E, J, V, M, U, Tryd.st24, Tryd.st47, Tryd.st50, Tryd.td24, Tryd.td3, Tryd.td4, Tryd.td47, Tryd.td50, Mly.av, Mpr.av, bo, bn]; (repeat refine And.intro (by first | omega | assumption | exact rfl) ?_); (first | refine Y _ ?_ | refine Or.inl (Y _ ?_)); clear Y K0; simp only [put, app, a9, af, zE, zS, E])
 refine ai ?_
 refine hK1 _ ?_; clear hK1; refine ae [0, 1, 2, 3, 4, 5, 6, 7] ?_; simp only [Z, lkp, zE, reduceCtorEq, G, a8, E]
 refine aa fun K2 hK2 => ?_
 refine aa fun K3 hK3 => ?_
 refine aj hP hN rfl ?_
 (refine ad rfl fun K0 Y => ?_; simp only [zE, op1, ev, lkp, ah, ag, ay, Nat.mul_one, aw, ax, acs, Ty.dflt, zG, aq, reduceCtorEq, G, E, J, V, M, U, Tryd.st47, Tryd.td47, Mly.av, Mpr.av, bo, bn]; (repeat refine And.intro (by first | omega | assumption | exact rfl) ?_); refine Y _ ?_; clear Y K0; simp only [put, app, a9, af, zE, zS, E])
 refine ad rfl fun K0 Y => ?_
 refine bc (h := aU (oo m)) rfl rfl (by first | exact rfl | (simp only [ev, Z, lkp, zE, reduceCtorEq, G, a8, E]; exact rfl)) (by simp only [zE, zG, op1, ev, lkp, ah, ag, au, acs, br, mv1, mvC, Ty.dflt, reduceCtorEq, G, E, J, V, M, U, Mly.av, Mpr.av, bo, bn]) ?_
 refine Y _ ?_; clear Y K0; simp only [put, app, a9, af, zE, zS, E]
 (refine ad rfl fun K0 Y => ?_; simp only [zE, op1, ev, lkp, ah, ag, ev, reduceCtorEq, G, E, J, V, M, U, Tryd.td3, Mly.av, Mpr.av, bo, bn]; refine Y _ ?_; clear Y K0; simp only [put, app, a9, af, zE, zS, E])
 refine ai ?_
 refine hK3 _ ?_; clear hK3; refine ae [0, 1, 2, 3, 4, 5, 6, 7, 8] ?_; simp only [Z, lkp, zE, reduceCtorEq, G, a8, E]
 refine aa fun K4 hK4 => ?_
 refine aj hP hN rfl ?_
 iterate 2 (refine ad rfl fun K0 Y => ?_; simp only [zE, op1, ev, lkp, ah, ag, aC, aD, aE, ao, aB, aR, reduceCtorEq, G, E, J, V, M, U, Tryd.td3, Tryd.td4, Mly.av, Mpr.av, bo, bn]; (repeat refine And.intro (by first | omega | assumption | exact rfl) ?_); refine Y _ ?_; clear Y K0; simp only [put, app, a9, af, zE, zS, E])
 refine ai ?_
 refine hK4 _ ?_; clear hK4; refine ae [0, 1, 2, 3, 4, 5, 6, 7, 8, 24] ?_; simp only [Z, lkp, zE, reduceCtorEq, G, a8, E]
 refine aG (by simp only [ev, Z, lkp, zE, reduceCtorEq, G, a8, E]; exact rfl) (fun hc5 => ?_) (fun hc5 => ?_)
 ·(try simp only [zB, reduceCtorEq] at hc5)
  have e9 := pK (m := m) (p := p) hc5
  refine aa fun K6 hK6 => ?_
  refine aj hP hN rfl ?_
  iterate 7 (refine ad rfl fun K0 Y => ?_; simp only [zE, op1, ev, lkp, ah, ag, c9, b9, aQ, au, bI, Nat.mul_one, aL, acs, Ty.size, Ty.dflt, zG, reduceCtorEq, G, E, J, V, M, U, Tryd.st47, Tryd.st50, Tryd.td3, Tryd.td4, Tryd.td47, Tryd.td50, Mly.av, Mpr.av, bo, bn]; (repeat refine And.intro (by first | omega | assumption | exact rfl) ?_); (first | refine Y _ ?_ | refine Or.inl (Y _ ?_)); clear Y K0; simp only [put, app, a9, af, zE, zS, E])
  refine ai ?_
  refine hK6 _ ?_; clear hK6; refine ae [0, 1, 2, 3, 4, 5, 6, 7, 8, 24] ?_; simp only [Z, lkp, zE, reduceCtorEq, G, a8, E]
  refine aP ?_
  refine ⟨by first | exact .inl rfl | exact .inr rfl, _, rfl, ?_⟩; simp only [fzV, fz1, fzC, List.map_cons, List.map_nil, Z, lkp, zE, reduceCtorEq, G, a8, E, Mly.av, Mpr.av, bo, bn]
  rw [e9]
  first
  | exact VLE.of_eq rfl
  | exact bl ⟨aT ⟨.refl _, .refl _, aH rfl, aH rfl, trivial⟩, aT ⟨aH rfl, .refl _, .refl _, trivial⟩, aM (.refl _), aM (.refl _), trivial⟩
  | exact bl ⟨aT ⟨.refl _, .refl _, aH rfl, aH rfl, trivial⟩, aT ⟨.refl _, .refl _, .refl _, trivial⟩, aM (.refl _), aM (.refl _), trivial⟩
  | exact bl ⟨aT ⟨.refl _, .refl _, .refl _, .refl _, trivial⟩, aT ⟨aH rfl, .refl _, .refl _, trivial⟩, aM (.refl _), aM (.refl _), trivial⟩
 ·(try simp only [zB, reduceCtorEq] at hc5)
  have hv1 : cg m = 0 := by omega
  have hm := nM hv1; have hn1 := hm.n1; have hn2 := hm.n2
  refine aJ ?_
  refine hK2 _ ?_; clear hK2; refine ae [0, 1, 2, 3, 4, 5, 6, 7, 8, 24] ?_; simp only [Z, lkp, zE, reduceCtorEq, G, a8, E]
  refine aa fun K7 hK7 => ?_
  refine aa fun K8 hK8 => ?_
  refine aj hP hN rfl ?_
  (refine ad rfl fun K0 Y => ?_; simp only [zE, op1, ev, lkp, ah, ag, ay, Nat.mul_one, aw, ax, acs, Ty.dflt, zG, aq, reduceCtorEq, G, E, J, V, M, U, Tryd.st24, Tryd.td24, Mly.av, Mpr.av, bo, bn]; (repeat refine And.intro (by first | omega | assumption | exact rfl) ?_); refine Y _ ?_; clear Y K0; simp only [put, app, a9, af, zE, zS, E])
  refine ad rfl fun K0 Y => ?_
  refine bc (h := aU (nh p)) rfl rfl (by first | exact rfl | (simp only [ev, Z, lkp, zE, reduceCtorEq, G, a8, E]; exact rfl)) (by simp only [zE, zG, op1, ev, lkp, ah, ag, au, acs, br, mv1, mvC, Ty.dflt, reduceCtorEq, G, E, J, V, M, U, Mly.av, Mpr.av, bo, bn]) ?_
  refine Y _ ?_; clear Y K0; simp only [put, app, a9, af, zE, zS, E]
  (refine ad rfl fun K0 Y => ?_; simp only [zE, op1, ev, lkp, ah, ag, ev, reduceCtorEq, G, E, J, V, M, U, Tryd.td3, Mly.av, Mpr.av, bo, bn]; refine Y _ ?_; clear Y K0; simp only [put, app, a9, af, zE, zS, E])
  refine ai ?_
  refine hK8 _ ?_; clear hK8; refine ae [0, 1, 2, 3, 4, 5, 6, 7, 8, 9, 24] ?_; simp only [Z, lkp, zE, reduceCtorEq, G, a8, E]
  refine aa fun K9 hK9 => ?_
  refine aj hP hN rfl ?_
  iterate 2 (refine ad rfl fun K0 Y => ?_; simp only [zE, op1, ev, lkp, ah, ag, aC, aD, aE, ao, aB, aR, reduceCtorEq, G, E, J, V, M, U, Tryd.td3, Tryd.td4, Mly.av, Mpr.av, bo, bn]; (repeat refine And.intro (by first | omega | assumption | exact rfl) ?_); refine Y _ ?_; clear Y K0; simp only [put, app, a9, af, zE, zS, E])
  refine ai ?_
  refine hK9 _ ?_; clear hK9; refine ae [0, 1, 2, 3, 4, 5, 6, 7, 8, 9, 24, 31] ?_; simp only [Z, lkp, zE, reduceCtorEq, G, a8, E]
  refine aG (by simp only [ev, Z, lkp, zE, reduceCtorEq, G, a8, E]; exact rfl) (fun hc10 => ?_) (fun hc10 => ?_)
  ·(try simp only [zB, reduceCtorEq] at hc10)
   have e9 := p9 (m := m) (p := p) hv1 hc10
   refine aa fun K11 hK11 => ?_
   refine aj hP hN rfl ?_
   iterate 7 (refine ad rfl fun K0 Y => ?_; simp only [zE, op1, ev, lkp, ah, ag, c9, b9, aQ, au, bI, Nat.mul_one, aL, acs, Ty.size, Ty.dflt, zG, reduceCtorEq, G, E, J, V, M, U, Tryd.st47, Tryd.st50, Tryd.td3, Tryd.td4, Tryd.td47, Tryd.td50, Mly.av, Mpr.av, bo, bn]; (repeat refine And.intro (by first | omega | assumption | exact rfl) ?_); (first | refine Y _ ?_ | refine Or.inl (Y _ ?_)); clear Y K0; simp only [put, app, a9, af, zE, zS, E])
   refine ai ?_
   refine hK11 _ ?_; clear hK11; refine ae [0, 1, 2, 3, 4, 5, 6, 7, 8, 9, 24, 31] ?_; simp only [Z, lkp, zE, reduceCtorEq, G, a8, E]
   refine aP ?_
   refine ⟨by first | exact .inl rfl | exact .inr rfl, _, rfl, ?_⟩; simp only [fzV, fz1, fzC, List.map_cons, List.map_nil, Z, lkp, zE, reduceCtorEq, G, a8, E, Mly.av, Mpr.av, bo, bn]
   rw [e9]
   first
   | exact VLE.of_eq rfl
   | exact bl ⟨aT ⟨.refl _, .refl _, aH rfl, aH rfl, trivial⟩, aT ⟨aH rfl, .refl _, .refl _, trivial⟩, aM (.refl _), aM (.refl _), trivial⟩
   | exact bl ⟨aT ⟨.refl _, .refl _, aH rfl, aH rfl, trivial⟩, aT ⟨.refl _, .refl _, .refl _, trivial⟩, aM (.refl _), aM (.refl _), trivial⟩
   | exact bl ⟨aT ⟨.refl _, .refl _, .refl _, .refl _, trivial⟩, aT ⟨aH rfl, .refl _, .refl _, trivial⟩, aM (.refl _), aM (.refl _), trivial⟩
  ·(try simp only [zB, reduceCtorEq] at hc10)
   have hv2 : bQ p = 0 := by omega
   have hp := j8 hv2; have pi1 := hp.i1; have pi2 := hp.i2; have pb1 := hp.b1; have pb2 := hp.b2; have pn1 := hp.n1; have pn2 := hp.n2; have psl := hp.sl
   refine aJ ?_
   refine hK7 _ ?_; clear hK7; refine ae [0, 1, 2, 3, 4, 5, 6, 7, 8, 9, 24, 31] ?_; simp only [Z, lkp, zE, reduceCtorEq, G, a8, E]
   refine aa fun K12 hK12 => ?_
   refine aa fun K13 hK13 => ?_
   refine aj hP hN rfl ?_
   iterate 5 (refine ad rfl fun K0 Y => ?_; simp only [zE, op1, ev, lkp, ah, ag, am, ay, Nat.mul_one, aw, ax, acs, Ty.dflt, zG, aq, aC, aD, aE, ao, aB, aR, reduceCtorEq, G, E, J, V, M, U, Tryd.st24, Tryd.st47, Tryd.td24, Tryd.td3, Tryd.td4, Tryd.td47, Mly.av, Mpr.av, bo, bn]; (repeat refine And.intro (by first | omega | assumption | exact rfl) ?_); refine Y _ ?_; clear Y K0; simp only [put, app, a9, af, zE, zS, E])
   refine ai ?_
   refine hK13 _ ?_; clear hK13; refine ae [0, 1, 2, 3, 4, 5, 6, 7, 8, 9, 24, 31, 39] ?_; simp only [Z, lkp, zE, reduceCtorEq, G, a8, E]
   refine aG (by simp only [ev, Z, lkp, zE, reduceCtorEq, G, a8, E]; exact rfl) (fun hc14 => ?_) (fun hc14 => ?_)
   ·(try simp only [zB, reduceCtorEq] at hc14)
    have e9 := pj hv1 hv2 hc14
    refine aa fun K15 hK15 => ?_
    refine aj hP hN rfl ?_
    iterate 6 (refine ad rfl fun K0 Y => ?_; simp only [zE, op1, ev, lkp, ah, ag, c9, b9, aQ, au, bI, Nat.mul_one, aL, acs, Ty.size, Ty.dflt, zG, reduceCtorEq, G, E, J, V, M, U, Tryd.st47, Tryd.st50, Tryd.td3, Tryd.td4, Tryd.td47, Tryd.td50, Mly.av, Mpr.av, bo, bn]; (repeat refine And.intro (by first | omega | assumption | exact rfl) ?_); (first | refine Y _ ?_ | refine Or.inl (Y _ ?_)); clear Y K0; simp only [put, app, a9, af, zE, zS, E])
    refine ai ?_
    refine hK15 _ ?_; clear hK15; refine ae [0, 1, 2, 3, 4, 5, 6, 7, 8, 9, 24, 31, 39] ?_; simp only [Z, lkp, zE, reduceCtorEq, G, a8, E]
    refine aP ?_
    refine ⟨by first | exact .inl rfl | exact .inr rfl, _, rfl, ?_⟩; simp only [fzV, fz1, fzC, List.map_cons, List.map_nil, Z, lkp, zE, reduceCtorEq, G, a8, E, Mly.av, Mpr.av, bo, bn]
    rw [e9]
    first
    | exact VLE.of_eq rfl
    | exact bl ⟨aT ⟨.refl _, .refl _, aH rfl, aH rfl, trivial⟩, aT ⟨aH rfl, .refl _, .refl _, trivial⟩, aM (.refl _), aM (.refl _), trivial⟩
    | exact bl ⟨aT ⟨.refl _, .refl _, aH rfl, aH rfl, trivial⟩, aT ⟨.refl _, .refl _, .refl _, trivial⟩, aM (.refl _), aM (.refl _), trivial⟩
    | exact bl ⟨aT ⟨.refl _, .refl _, .refl _, .refl _, trivial⟩, aT ⟨aH rfl, .refl _, .refl _, trivial⟩, aM (.refl _), aM (.refl _), trivial⟩
   ·(try simp only [zB, reduceCtorEq] at hc14)
    have hi : m.inp = p.inp := by omega
    refine aJ ?_
    refine hK12 _ ?_; clear hK12; refine ae [0, 1, 2, 3, 4, 5, 6, 7, 8, 9, 24, 31, 39] ?_; simp only [Z, lkp, zE, reduceCtorEq, G, a8, E]
    refine aa fun K16 hK16 => ?_
    obtain ⟨hrs1, hrs2⟩ := mX hm hp
    refine aj hP hN rfl ?_
    iterate 6 (refine ad rfl fun K0 Y => ?_; simp only [zE, op1, ev, lkp, ah, ag, am, ay, Nat.mul_one, aw, ax, acs, Ty.dflt, zG, aq, c9, b9, aQ, au, aV, bJ, rep, aL, Ty.size, reduceCtorEq, G, E, J, V, M, U, Tryd.el95, Tryd.fl94, Tryd.st24, Tryd.st47, Tryd.st94, Tryd.td1, Tryd.td2, Tryd.td24, Tryd.td3, Tryd.td47, Tryd.td94, Tryd.td95, Mly.av, Mpr.av, bo, bn]; (repeat refine And.intro (by first | omega | assumption | exact rfl) ?_); (first | refine Y _ ?_ | refine Or.inl (Y _ ?_)); clear Y K0; simp only [put, app, a9, af, zE, zS, E])
    (refine ad rfl fun K0 Y => ?_; simp only [zE, op1, ev, lkp, ah, ag, aV, b9, bJ, rep, aL, aQ, au, Ty.size, reduceCtorEq, G, E, J, V, M, U, Tryd.el96, Tryd.td1, Tryd.td96, Mly.av, Mpr.av, bo, bn]; (repeat refine And.intro (by first | omega | assumption | exact rfl) ?_); refine Or.inr (Or.inl (Y _ ?_)); clear Y K0; simp only [put, app, a9, af, zE, zS, E])
    (refine ad rfl fun K0 Y => ?_; simp only [zE, op1, ev, lkp, ah, ag, ev, reduceCtorEq, G, E, J, V, M, U, Tryd.el96, Tryd.td96, Mly.av, Mpr.av, bo, bn]; refine Y _ ?_; clear Y K0; simp only [put, app, a9, af, zE, zS, E])
    refine ai ?_
    refine hK16 _ ?_; clear hK16; refine ae [0, 1, 2, 3, 4, 5, 6, 7, 8, 9, 10, 24, 31, 39] ?_; simp only [Z, lkp, zE, reduceCtorEq, G, a8, E]
    refine aa fun K17 hK17 => ?_
    refine aj hP hN rfl ?_
    (refine ad rfl fun K0 Y => ?_; simp only [zE, op1, ev, lkp, ah, ag, aV, b9, bJ, rep, aL, aQ, au, Ty.size, reduceCtorEq, G, E, J, V, M, U, Tryd.el25, Tryd.td25, Mly.av, Mpr.av, bo, bn]; (repeat refine And.intro (by first | omega | assumption | exact rfl) ?_); (first | refine Y _ ?_ | refine Or.inl (Y _ ?_)); clear Y K0; simp only [put, app, a9, af, zE, zS, E])
    (refine ad rfl fun K0 Y => ?_; simp only [zE, op1, ev, lkp, ah, ag, aV, b9, bJ, rep, aL, aQ, au, Ty.size, reduceCtorEq, G, E, J, V, M, U, Tryd.el22, Tryd.td1, Tryd.td22, Mly.av, Mpr.av, bo, bn]; (repeat refine And.intro (by first | omega | assumption | exact rfl) ?_); refine Or.inr (Or.inl (Y _ ?_)); clear Y K0; simp only [put, app, a9, af, zE, zS, E])
    (refine ad rfl fun K0 Y => ?_; simp only [zE, op1, ev, lkp, ah, ag, ev, reduceCtorEq, G, E, J, V, M, U, Tryd.el22, Tryd.td22, Mly.av, Mpr.av, bo, bn]; refine Y _ ?_; clear Y K0; simp only [put, app, a9, af, zE, zS, E])
    refine ai ?_
    refine hK17 _ ?_; clear hK17; refine ae [0, 1, 2, 3, 4, 5, 6, 7, 8, 9, 10, 11, 24, 31, 39] ?_; simp only [Z, lkp, zE, reduceCtorEq, G, a8, E]
    refine aa fun K18 hK18 => ?_
    refine aj hP hN rfl ?_
    iterate 5 (refine ad rfl fun K0 Y => ?_; simp only [zE, op1, ev, lkp, ah, ag, am, ay, Nat.mul_one, aw, ax, acs, Ty.dflt, zG, aq, c9, b9, aQ, au, co, bI, aL, Ty.size, reduceCtorEq, G, E, J, V, M, U, Tryd.st24, Tryd.st47, Tryd.td1, Tryd.td24, Tryd.td3, Tryd.td47, Mly.av, Mpr.av, bo, bn]; (repeat refine And.intro (by first | omega | assumption | exact rfl) ?_); (first | refine Y _ ?_ | refine Or.inl (Y _ ?_)); clear Y K0; simp only [put, app, a9, af, zE, zS, E])
    refine ai ?_
    refine hK18 _ ?_; clear hK18; refine ae [0, 1, 2, 3, 4, 5, 6, 7, 8, 9, 10, 11, 12, 24, 31, 39] ?_; simp only [Z, lkp, zE, reduceCtorEq, G, a8, E]
    refine aa fun K19 hK19 => ?_
    refine aa fun K20 hK20 => ?_
    refine aj hP hN rfl ?_
    (refine ad rfl fun K0 Y => ?_; simp only [zE, op1, ev, lkp, ah, ag, ev, reduceCtorEq, G, E, J, V, M, U, Tryd.td3, Mly.av, Mpr.av, bo, bn]; refine Y _ ?_; clear Y K0; simp only [put, app, a9, af, zE, zS, E])
    refine ai ?_
    refine hK20 _ ?_; clear hK20; refine ae [0, 1, 2, 3, 4, 5, 6, 7, 8, 9, 10, 11, 12, 13, 24, 31, 39] ?_; simp only [Z, lkp, zE, reduceCtorEq, G, a8, E]
    refine aW ?_
    refine dd 6 2 (.list (.int .i64)) 25 (by decide) rfl rfl ?_; simp only [zS, List.length_cons, List.length_nil, List.cons_append, List.nil_append, Nat.zero_add, E]
    refine dd 6 3 (.list (.int .i64)) 25 (by decide) rfl rfl ?_; simp only [zS, List.length_cons, List.length_nil, List.cons_append, List.nil_append, Nat.zero_add, E]
    refine bM (fun n21 s21 => ∃ (k : Nat) (u v1 v2 : Nat), (RIM m p k) ∧ n21 = 129 - k ∧ s21 = { env := [(2, .one (.ptr 0 0 0 0)), (3, .one (.ptr 1 0 0 0)), (4, .one (.ptr 2 0 0 0)), (5, .one (.ptr 3 0 0 0)), (6, .one (.bool false)), (7, .one (.int .i64 0)), (10, .one (.row 4 v1)), (11, .one (.row 5 v2)), (12, .one (.ptr 6 0 0 0)), (13, .one (.int .i64 (k : Int)))], L := [.vars 47 [.int .i64 m.inp, .int .i64 m.st, .list (.list (.int .i64)) m.nx, .list (.list (.int .i64)) m.ot], .vars 24 [.int .i64 p.inp, .int .i64 p.ab, .int .i64 p.st, .list (.list (.int .i64)) p.nx, .list (.list (.int .i64)) p.sy], .vars 47 [.int .i64 0, .int .i64 0, .nils, .nils], .vars 50 [.nils, .int .i64 0, .int .i64 0], .row (.list (.pair (.int .i64) (.pair (.int .i64) .unit))) 95 v1 (mS1 m (cm m p k).S), .row (.list (.int .i64)) 25 v2 (mS2 (cm m p k).S), .vars 47 [.int .i64 p.ab, .int .i64 0, .row 7 u, .row 8 u], .row (.list (.int .i64)) 25 u (cm m p k).N, .row (.list (.int .i64)) 25 u (cm m p k).O] }) ?_ ?_
    ·refine ⟨_, _, aS [2, 3, 4, 5, 6, 7, 10, 11, 12, 13], 0, 0, 0, 0, fun j hj => by omega, rfl, ?_⟩
     rw [hrs1, hrs2]; rfl
    ·rintro n21 s21 ⟨k, u, v1, v2, hR, rfl, rfl⟩
     refine aa fun K22 hK22 => ?_
     refine aa fun K23 hK23 => ?_
     refine aj hP hN rfl ?_
     iterate 4 (refine ad rfl fun K0 Y => ?_; simp only [zE, op1, ev, lkp, ah, ag, aF, bu, bh, ba, bb, bq, Nat.div_one, aK, bf, Ty.size, aL, dite_true, aC, aD, aE, ao, aB, aR, reduceCtorEq, G, E, J, V, M, U, Tryd.el96, Tryd.td3, Tryd.td4, Tryd.td96, Mly.av, Mpr.av, bo, bn]; (repeat refine And.intro (by first | omega | assumption | exact rfl) ?_); (first | refine Y _ ?_ | refine Or.inl (Y _ ?_)); clear Y K0; simp only [put, app, a9, af, zE, zS, E])
     refine ai ?_
     refine hK23 _ ?_; clear hK23; refine ae [2, 3, 4, 5, 6, 7, 10, 11, 12, 13, 57] ?_; simp only [Z, lkp, zE, reduceCtorEq, G, a8, E]
     refine aG (by simp only [ev, Z, lkp, zE, reduceCtorEq, G, a8, E]; exact rfl) (fun hc24 => ?_) (fun hc24 => ?_)
     ·(try simp only [zB, reduceCtorEq] at hc24)
      refine aJ ?_
      refine hK22 _ ?_; clear hK22; refine ae [2, 3, 4, 5, 6, 7, 10, 11, 12, 13, 57] ?_; simp only [Z, lkp, zE, reduceCtorEq, G, a8, E]
      refine aa fun K25 hK25 => ?_
      refine aW ?_
      refine aa fun K26 hK26 => ?_
      refine aj hP hN rfl ?_
      iterate 2 (refine ad rfl fun K0 Y => ?_; simp only [zE, op1, ev, lkp, ah, ag, ev, reduceCtorEq, G, E, J, V, M, U, Tryd.el25, Tryd.td25, Mly.av, Mpr.av, bo, bn]; refine Y _ ?_; clear Y K0; simp only [put, app, a9, af, zE, zS, E])
      refine ai ?_
      refine hK26 _ ?_; clear hK26; refine ae [2, 3, 4, 5, 6, 7, 10, 11, 12, 13, 14, 15, 57] ?_; simp only [Z, lkp, zE, reduceCtorEq, G, a8, E]
      refine aa fun K27 hK27 => ?_
      refine aa fun K28 hK28 => ?_
      refine aj hP hN rfl ?_
      (refine ad rfl fun K0 Y => ?_; simp only [zE, op1, ev, lkp, ah, ag, ev, reduceCtorEq, G, E, J, V, M, U, Tryd.td3, Mly.av, Mpr.av, bo, bn]; refine Y _ ?_; clear Y K0; simp only [put, app, a9, af, zE, zS, E])
      refine ai ?_
      refine hK28 _ ?_; clear hK28; refine ae [2, 3, 4, 5, 6, 7, 10, 11, 12, 13, 14, 15, 16, 57] ?_; simp only [Z, lkp, zE, reduceCtorEq, G, a8, E]
      refine aW ?_
      refine cL 14 (.int .i64) 3 (by decide) rfl ?_; simp only [List.length_cons, List.length_nil, List.cons_append, List.nil_append, Nat.zero_add, E]
      refine cL 15 (.int .i64) 3 (by decide) rfl ?_; simp only [List.length_cons, List.length_nil, List.cons_append, List.nil_append, Nat.zero_add, E]
      have hkl : k < (cm m p k).S.length := by omega
      refine bM (fun n29 s29 => ∃ (a : Nat) (r v1 v2 : Nat), ((a : Int) ≤ p.ab) ∧ (∀ b, b < a → cT m p k (bB m p k b) b = none) ∧ n29 = p.ab.toNat - a ∧ s29 = { env := [(2, .one (.ptr 0 0 0 0)), (3, .one (.ptr 1 0 0 0)), (4, .one (.ptr 2 0 0 0)), (5, .one (.ptr 3 0 0 0)), (6, .one (.bool false)), (7, .one (.int .i64 0)), (10, .one (.row 4 v1)), (11, .one (.row 5 v2)), (12, .one (.ptr 6 0 0 0)), (13, .one (.int .i64 (k : Int))), (14, .one (.row 9 r)), (15, .one (.row 10 r)), (16, .one (.int .i64 (a : Int)))], L := [.vars 47 [.int .i64 m.inp, .int .i64 m.st, .list (.list (.int .i64)) m.nx, .list (.list (.int .i64)) m.ot], .vars 24 [.int .i64 p.inp, .int .i64 p.ab, .int .i64 p.st, .list (.list (.int .i64)) p.nx, .list (.list (.int .i64)) p.sy], .vars 47 [.int .i64 0, .int .i64 0, .nils, .nils], .vars 50 [.nils, .int .i64 0, .int .i64 0], .row (.list (.pair (.int .i64) (.pair (.int .i64) .unit))) 95 v1 (mS1 m (bB m p k a).S), .row (.list (.int .i64)) 25 v2 (mS2 (bB m p k a).S), .vars 47 [.int .i64 p.ab, .int .i64 0, .row 7 u, .row 8 u], .row (.list (.int .i64)) 25 u (cm m p k).N, .row (.list (.int .i64)) 25 u (cm m p k).O, .row (.int .i64) 3 r (bB m p k a).nr, .row (.int .i64) 3 r (bB m p k a).os] }) ?_ ?_
      ·refine ⟨_, _, aS [2, 3, 4, 5, 6, 7, 10, 11, 12, 13, 14, 15, 16], 0, 0, v1, v2, by omega, fun b hb => by omega, rfl, ?_⟩
       rw [ki, (dx m p k).1, (dx m p k).2.1]; rfl
      ·rintro n29 s29 ⟨a, r, v1, v2, ha, hF, rfl, rfl⟩
       refine aa fun K30 hK30 => ?_
       refine aa fun K31 hK31 => ?_
       refine aj hP hN rfl ?_
       iterate 4 (refine ad rfl fun K0 Y => ?_; simp only [zE, op1, ev, lkp, ah, ag, am, ay, Nat.mul_one, aw, ax, acs, Ty.dflt, zG, aq, aC, aD, aE, ao, aB, aR, reduceCtorEq, G, E, J, V, M, U, Tryd.st24, Tryd.td1, Tryd.td24, Tryd.td3, Tryd.td4, Mly.av, Mpr.av, bo, bn]; (repeat refine And.intro (by first | omega | assumption | exact rfl) ?_); refine Y _ ?_; clear Y K0; simp only [put, app, a9, af, zE, zS, E])
       refine ai ?_
       refine hK31 _ ?_; clear hK31; refine ae [2, 3, 4, 5, 6, 7, 10, 11, 12, 13, 14, 15, 16, 63] ?_; simp only [Z, lkp, zE, reduceCtorEq, G, a8, E]
       refine aG (by simp only [ev, Z, lkp, zE, reduceCtorEq, G, a8, E]; exact rfl) (fun hc32 => ?_) (fun hc32 => ?_)
       ·(try simp only [zB, reduceCtorEq] at hc32)
        refine aJ ?_
        refine hK30 _ ?_; clear hK30; refine ae [2, 3, 4, 5, 6, 7, 10, 11, 12, 13, 14, 15, 16, 63] ?_; simp only [Z, lkp, zE, reduceCtorEq, G, a8, E]
        refine aa fun K33 hK33 => ?_
        refine aW ?_
        refine aa fun K34 hK34 => ?_
        have hSR := eR hm hp hi hR; obtain ⟨hSI, hgg⟩ := hO hm hp hi hSR hkl a; have hge := gN (m := m) (p := p) (i := k) a; have hsl := hSI.le; obtain ⟨hsb, hwl⟩ := hSI.at_ (i := k) (by omega); have hwk := (hSR.at_ hkl).2; rw [← hgg] at hwk
        have hgi : ∀ d, (mS1 m (bB m p k a).S).getD k d = List.map (dcE m) ((bB m p k a).S.getD k ss0).1 := fun d => qI (by omega) d
        have hgj : ∀ d, (mS2 (bB m p k a).S).getD k d = ((bB m p k a).S.getD k ss0).2 := fun d => r8 (by omega) d
        have hkL : k < (bB m p k a).S.length := by omega
        have hap : 0 < (aO m p (cxM (bB m p k a) k) (a : Int)).length := nR hp hsb.pos _; have hsn : SB m p (aN m p (cxM (bB m p k a) k) (a : Int)) := np hsb hm hp hi _; have hsnl := hsn.len hm hp
        have hcl := eU (m := m) (p := p) (i := k) a; have hrn := dx m p k; rw [hrn.1, hrn.2.1] at hcl; have hcl3 := hcl.2.2.1; have hcl4 := hcl.2.2.2; simp only [List.length_nil, Nat.zero_add] at hcl3 hcl4
        refine bW hP hN Tryd.mixed rfl ?_
        iterate 7 (refine ad rfl fun K0 Y => ?_; simp only [zE, op1, ev, lkp, ah, ag, ay, Nat.mul_one, aw, ax, acs, Ty.dflt, zG, aq, aI, Ty.size, ne_eq, not_false_eq_true, Int.natCast_one, Int.mul_one, reduceCtorEq, G, E, J, V, M, U, Tryd.el95, Tryd.el96, Tryd.st24, Tryd.st47, Tryd.td24, Tryd.td3, Tryd.td47, Tryd.td95, Tryd.td96, Mly.av, Mpr.av, bo, bn, hgi]; (repeat refine And.intro (by first | omega | assumption | exact rfl) ?_); refine Y _ ?_; clear Y K0; simp only [put, app, a9, af, zE, zS, E])
        refine ad rfl fun K0 Y => ?_
        refine bc (h := aU (ri m p (cxM (bB m p k a) k) (a : Int) hm hp hi hsb)) rfl rfl (by first | exact rfl | (simp only [ev, Z, lkp, zE, reduceCtorEq, G, a8, E]; exact rfl)) (by simp only [zE, zG, op1, ev, lkp, ah, ag, au, acs, br, mv1, mvC, Ty.dflt, reduceCtorEq, G, E, J, V, M, U, Mly.av, Mpr.av, bo, bn, hgi, cxM]) ?_
        refine Y _ ?_; clear Y K0; simp only [put, app, a9, af, zE, zS, E]
        iterate 5 (refine ad rfl fun K0 Y => ?_; simp only [zE, op1, ev, lkp, ah, ag, bZ, reduceCtorEq, G, E, J, V, M, U, Tryd.el25, Tryd.el95, Tryd.td1, Tryd.td25, Tryd.td95, Mly.av, Mpr.av, bo, bn, hgi]; refine Y _ ?_; clear Y K0; simp only [put, app, a9, af, zE, zS, E])
        refine ai ?_
        refine ⟨by kernel_rfl, ?_⟩
        refine hK34 _ ?_; clear hK34; refine ae [2, 3, 4, 5, 6, 7, 10, 11, 12, 13, 14, 15, 16, 17, 18, 63] ?_; simp only [Z, lkp, zE, reduceCtorEq, G, a8, E]
        refine aa fun K35 hK35 => ?_
        refine aj hP hN rfl ?_
        iterate 7 (refine ad rfl fun K0 Y => ?_; simp only [zE, op1, ev, lkp, ah, ag, aI, zG, Ty.dflt, Ty.size, Nat.mul_one, ne_eq, not_false_eq_true, Int.natCast_one, Int.mul_one, ay, aw, ax, acs, aq, aV, b9, bJ, rep, aL, aQ, au, reduceCtorEq, G, E, J, V, M, U, Tryd.el22, Tryd.el25, Tryd.td1, Tryd.td2, Tryd.td22, Tryd.td25, Tryd.td3, Mly.av, Mpr.av, bo, bn, hgj, List.flatten_cons, List.flatten_nil, List.append_nil]; (repeat refine And.intro (by first | omega | assumption | exact rfl) ?_); (first | refine Y _ ?_ | refine Or.inl (Y _ ?_)); clear Y K0; simp only [put, app, a9, af, zE, zS, E, hgj, List.flatten_cons, List.flatten_nil, List.append_nil])
        refine ad rfl fun K0 Y => ?_
        refine bc (h := aU (qV [((bB m p k a).S.getD k ss0).2, [(a : Int)]] (by rw [ji]; omega))) rfl rfl (by first | exact rfl | (simp only [ev, Z, lkp, zE, reduceCtorEq, G, a8, E]; exact rfl)) (by simp only [zE, zG, op1, ev, lkp, ah, ag, au, acs, br, mv1, mvC, Ty.dflt, reduceCtorEq, G, E, J, V, M, U, Mly.av, Mpr.av, bo, bn, hgj, List.flatten_cons, List.flatten_nil, List.append_nil]) ?_
        refine Y _ ?_; clear Y K0; simp only [put, app, a9, af, zE, zS, E, hgj, List.flatten_cons, List.flatten_nil, List.append_nil]
        (refine ad rfl fun K0 Y => ?_; simp only [zE, op1, ev, lkp, ah, ag, ev, reduceCtorEq, G, E, J, V, M, U, Tryd.el25, Tryd.td25, Mly.av, Mpr.av, bo, bn, hgj, List.flatten_cons, List.flatten_nil, List.append_nil]; refine Y _ ?_; clear Y K0; simp only [put, app, a9, af, zE, zS, E, hgj, List.flatten_cons, List.flatten_nil, List.append_nil])
        refine ai ?_
        refine hK35 _ ?_; clear hK35; refine ae [2, 3, 4, 5, 6, 7, 10, 11, 12, 13, 14, 15, 16, 17, 18, 19, 63] ?_; simp only [Z, lkp, zE, reduceCtorEq, G, a8, E]
        refine aa fun K36 hK36 => ?_
        refine aa fun K37 hK37 => ?_
        refine aj hP hN rfl ?_
        iterate 3 (refine ad rfl fun K0 Y => ?_; simp only [zE, op1, ev, lkp, ah, ag, aF, bu, bh, ba, bb, bq, Nat.div_one, aK, bf, Ty.size, aL, dite_true, aC, aD, aE, ao, aB, aR, reduceCtorEq, G, E, J, V, M, U, Tryd.el25, Tryd.td25, Tryd.td3, Tryd.td4, Mly.av, Mpr.av, bo, bn]; (repeat refine And.intro (by first | omega | assumption | exact rfl) ?_); (first | refine Y _ ?_ | refine Or.inl (Y _ ?_)); clear Y K0; simp only [put, app, a9, af, zE, zS, E])
        refine ai ?_
        refine hK37 _ ?_; clear hK37; refine ae [2, 3, 4, 5, 6, 7, 10, 11, 12, 13, 14, 15, 16, 17, 18, 19, 63, 87] ?_; simp only [Z, lkp, zE, reduceCtorEq, G, a8, E]
        refine aG (by simp only [ev, Z, lkp, zE, reduceCtorEq, G, a8, E]; exact rfl) (fun hc38 => ?_) (fun hc38 => ?_)
        ·(try simp only [zB, reduceCtorEq] at hc38)
         have e9 := (eH hv1 hv2 hi).trans (ee (dI hm hp hi hR) hR hkl (by omega) hF (nP (by omega)))
         refine aa fun K39 hK39 => ?_
         refine bW hP hN Tryd.mixed rfl ?_
         iterate 13 (refine ad rfl fun K0 Y => ?_; simp only [zE, op1, ev, lkp, ah, ag, c9, b9, aQ, au, aI, zG, Ty.dflt, Ty.size, Nat.mul_one, ne_eq, not_false_eq_true, Int.natCast_one, Int.mul_one, ay, aw, ax, acs, aq, bI, aL, reduceCtorEq, G, E, J, V, M, U, Tryd.el25, Tryd.st47, Tryd.st50, Tryd.td25, Tryd.td3, Tryd.td4, Tryd.td47, Tryd.td50, Mly.av, Mpr.av, bo, bn]; (repeat refine And.intro (by first | omega | assumption | exact rfl) ?_); (first | refine Y _ ?_ | refine Or.inl (Y _ ?_)); clear Y K0; simp only [put, app, a9, af, zE, zS, E])
         refine ai ?_
         refine ⟨by kernel_rfl, ?_⟩
         refine hK39 _ ?_; clear hK39; refine ae [2, 3, 4, 5, 6, 7, 10, 11, 12, 13, 14, 15, 16, 17, 18, 19, 63, 87] ?_; simp only [Z, lkp, zE, reduceCtorEq, G, a8, E]
         refine aP ?_
         refine ⟨by first | exact .inl rfl | exact .inr rfl, _, rfl, ?_⟩; simp only [fzV, fz1, fzC, List.map_cons, List.map_nil, Z, lkp, zE, reduceCtorEq, G, a8, E, Mly.av, Mpr.av, bo, bn]
         rw [e9]
         first
         | exact VLE.of_eq rfl
         | exact bl ⟨aT ⟨.refl _, .refl _, aH rfl, aH rfl, trivial⟩, aT ⟨aH rfl, .refl _, .refl _, trivial⟩, aM (.refl _), aM (.refl _), trivial⟩
         | exact bl ⟨aT ⟨.refl _, .refl _, aH rfl, aH rfl, trivial⟩, aT ⟨.refl _, .refl _, .refl _, trivial⟩, aM (.refl _), aM (.refl _), trivial⟩
         | exact bl ⟨aT ⟨.refl _, .refl _, .refl _, .refl _, trivial⟩, aT ⟨aH rfl, .refl _, .refl _, trivial⟩, aM (.refl _), aM (.refl _), trivial⟩
        ·(try simp only [zB, reduceCtorEq] at hc38)
         have ho1 : ¬ 1 < (aO m p (cxM (bB m p k a) k) (a : Int)).length := by omega
         refine aJ ?_
         refine hK36 _ ?_; clear hK36; refine ae [2, 3, 4, 5, 6, 7, 10, 11, 12, 13, 14, 15, 16, 17, 18, 19, 63, 87] ?_; simp only [Z, lkp, zE, reduceCtorEq, G, a8, E]
         refine aa fun K40 hK40 => ?_
         refine aa fun K41 hK41 => ?_
         refine aj hP hN rfl ?_
         iterate 4 (refine ad rfl fun K0 Y => ?_; simp only [zE, op1, ev, lkp, ah, ag, aI, zG, Ty.dflt, Ty.size, Nat.mul_one, ne_eq, not_false_eq_true, Int.natCast_one, Int.mul_one, ay, aw, ax, acs, aq, aC, aD, aE, ao, aB, aR, reduceCtorEq, G, E, J, V, M, U, Tryd.el25, Tryd.td25, Tryd.td3, Tryd.td4, Mly.av, Mpr.av, bo, bn]; (repeat refine And.intro (by first | omega | assumption | exact rfl) ?_); refine Y _ ?_; clear Y K0; simp only [put, app, a9, af, zE, zS, E])
         refine ai ?_
         refine hK41 _ ?_; clear hK41; refine ae [2, 3, 4, 5, 6, 7, 10, 11, 12, 13, 14, 15, 16, 17, 18, 19, 63, 87, 100] ?_; simp only [Z, lkp, zE, reduceCtorEq, G, a8, E]
         refine aG (by simp only [ev, Z, lkp, zE, reduceCtorEq, G, a8, E]; exact rfl) (fun hc42 => ?_) (fun hc42 => ?_)
         ·(try simp only [zB, reduceCtorEq] at hc42)
          have e9 := (eH hv1 hv2 hi).trans (ee (dI hm hp hi hR) hR hkl (by omega) hF (nF ho1 hc42))
          refine aa fun K43 hK43 => ?_
          refine aj hP hN rfl ?_
          iterate 6 (refine ad rfl fun K0 Y => ?_; simp only [zE, op1, ev, lkp, ah, ag, c9, b9, aQ, au, bI, Nat.mul_one, aL, acs, Ty.size, Ty.dflt, zG, reduceCtorEq, G, E, J, V, M, U, Tryd.st47, Tryd.st50, Tryd.td3, Tryd.td4, Tryd.td47, Tryd.td50, Mly.av, Mpr.av, bo, bn]; (repeat refine And.intro (by first | omega | assumption | exact rfl) ?_); (first | refine Y _ ?_ | refine Or.inl (Y _ ?_)); clear Y K0; simp only [put, app, a9, af, zE, zS, E])
          refine ai ?_
          refine hK43 _ ?_; clear hK43; refine ae [2, 3, 4, 5, 6, 7, 10, 11, 12, 13, 14, 15, 16, 17, 18, 19, 63, 87, 100] ?_; simp only [Z, lkp, zE, reduceCtorEq, G, a8, E]
          refine aP ?_
          refine ⟨by first | exact .inl rfl | exact .inr rfl, _, rfl, ?_⟩; simp only [fzV, fz1, fzC, List.map_cons, List.map_nil, Z, lkp, zE, reduceCtorEq, G, a8, E, Mly.av, Mpr.av, bo, bn]
          rw [e9]
          first
          | exact VLE.of_eq rfl
          | exact bl ⟨aT ⟨.refl _, .refl _, aH rfl, aH rfl, trivial⟩, aT ⟨aH rfl, .refl _, .refl _, trivial⟩, aM (.refl _), aM (.refl _), trivial⟩
          | exact bl ⟨aT ⟨.refl _, .refl _, aH rfl, aH rfl, trivial⟩, aT ⟨.refl _, .refl _, .refl _, trivial⟩, aM (.refl _), aM (.refl _), trivial⟩
          | exact bl ⟨aT ⟨.refl _, .refl _, .refl _, .refl _, trivial⟩, aT ⟨aH rfl, .refl _, .refl _, trivial⟩, aM (.refl _), aM (.refl _), trivial⟩
         ·(try simp only [zB, reduceCtorEq] at hc42)
          have ho2 : ¬ 1048576 < (aO m p (cxM (bB m p k a) k) (a : Int)).getD 0 0 := by omega
          refine aJ ?_
          refine hK40 _ ?_; clear hK40; refine ae [2, 3, 4, 5, 6, 7, 10, 11, 12, 13, 14, 15, 16, 17, 18, 19, 63, 87, 100] ?_; simp only [Z, lkp, zE, reduceCtorEq, G, a8, E]
          refine aa fun K44 hK44 => ?_
          refine aj hP hN rfl ?_
          iterate 2 (refine ad rfl fun K0 Y => ?_; simp only [zE, op1, ev, lkp, ah, ag, ev, reduceCtorEq, G, E, J, V, M, U, Tryd.el95, Tryd.el96, Tryd.td95, Tryd.td96, Mly.av, Mpr.av, bo, bn]; refine Y _ ?_; clear Y K0; simp only [put, app, a9, af, zE, zS, E])
          refine ad rfl fun K0 Y => ?_
          refine bc (h := lN (args := [.one (.row 4 v1), .one (.list (.pair (.int .i64) (.pair (.int .i64) .unit)) (List.map (dcE m) (aN m p (cxM (bB m p k a) k) (a : Int))))]) (by simp [fzV, fz1, fzC, mS1]) rfl (re m (bB m p k a).S (aN m p (cxM (bB m p k a) k) (a : Int)) hn1 (hSI.kb hm hp) (hsn.kb hm hp) (by omega) (fun s hs => by have := (hSI.sb s hs).len hm hp; omega)) rfl) rfl rfl (by first | exact rfl | (simp only [ev, Z, lkp, zE, reduceCtorEq, G, a8, E]; exact rfl)) (by simp only [zE, zG, op1, ev, lkp, ah, ag, au, acs, br, mv1, mvC, Ty.dflt, reduceCtorEq, G, E, J, V, M, U, Mly.av, Mpr.av, bo, bn]) ?_
          refine Y _ ?_; clear Y K0; simp only [put, app, a9, af, zE, zS, E]
          (refine ad rfl fun K0 Y => ?_; simp only [zE, op1, ev, lkp, ah, ag, ev, reduceCtorEq, G, E, J, V, M, U, Tryd.td3, Mly.av, Mpr.av, bo, bn]; refine Y _ ?_; clear Y K0; simp only [put, app, a9, af, zE, zS, E])
          refine ai ?_
          refine hK44 _ ?_; clear hK44; refine ae [2, 3, 4, 5, 6, 7, 10, 11, 12, 13, 14, 15, 16, 17, 18, 19, 20, 63, 87, 100] ?_; simp only [Z, lkp, zE, reduceCtorEq, G, a8, E]
          refine aa fun K45 hK45 => ?_
          refine aa fun K46 hK46 => ?_
          refine aj hP hN rfl ?_
          iterate 4 (refine ad rfl fun K0 Y => ?_; simp only [zE, op1, ev, lkp, ah, ag, aF, bu, bh, ba, bb, bq, Nat.div_one, aK, bf, Ty.size, aL, dite_true, aC, aD, aE, ao, aB, aR, reduceCtorEq, G, E, J, V, M, U, Tryd.el96, Tryd.td3, Tryd.td4, Tryd.td96, Mly.av, Mpr.av, bo, bn]; (repeat refine And.intro (by first | omega | assumption | exact rfl) ?_); (first | refine Y _ ?_ | refine Or.inl (Y _ ?_)); clear Y K0; simp only [put, app, a9, af, zE, zS, E])
          refine ai ?_
          refine hK46 _ ?_; clear hK46; refine ae [2, 3, 4, 5, 6, 7, 10, 11, 12, 13, 14, 15, 16, 17, 18, 19, 20, 63, 87, 100, 109] ?_; simp only [Z, lkp, zE, reduceCtorEq, G, a8, E]
          refine aG (by simp only [ev, Z, lkp, zE, reduceCtorEq, G, a8, E]; exact rfl) (fun hc47 => ?_) (fun hc47 => ?_)
          ·(try simp only [zB, reduceCtorEq] at hc47)
           have hpe : ct (bB m p k a).S (aN m p (cxM (bB m p k a) k) (a : Int)) = (bB m p k a).S.length := by omega
           have hps : ¬ ct (bB m p k a).S (aN m p (cxM (bB m p k a) k) (a : Int)) < (bB m p k a).S.length := by omega
           refine aa fun K48 hK48 => ?_
           refine aa fun K49 hK49 => ?_
           refine aj hP hN rfl ?_
           iterate 2 (refine ad rfl fun K0 Y => ?_; simp only [zE, op1, ev, lkp, ah, ag, aC, aD, aE, ao, aB, aR, reduceCtorEq, G, E, J, V, M, U, Tryd.td3, Tryd.td4, Mly.av, Mpr.av, bo, bn]; (repeat refine And.intro (by first | omega | assumption | exact rfl) ?_); refine Y _ ?_; clear Y K0; simp only [put, app, a9, af, zE, zS, E])
           refine ai ?_
           refine hK49 _ ?_; clear hK49; refine ae [2, 3, 4, 5, 6, 7, 10, 11, 12, 13, 14, 15, 16, 17, 18, 19, 20, 63, 87, 100, 109, 111] ?_; simp only [Z, lkp, zE, reduceCtorEq, G, a8, E]
           refine aG (by simp only [ev, Z, lkp, zE, reduceCtorEq, G, a8, E]; exact rfl) (fun hc50 => ?_) (fun hc50 => ?_)
           ·(try simp only [zB, reduceCtorEq] at hc50)
            have e9 := (eH hv1 hv2 hi).trans (ee (dI hm hp hi hR) hR hkl (by omega) hF (nB ho1 ho2 (eg (w := []) hps (by omega)).2.1))
            refine aa fun K51 hK51 => ?_
            refine aj hP hN rfl ?_
            iterate 6 (refine ad rfl fun K0 Y => ?_; simp only [zE, op1, ev, lkp, ah, ag, c9, b9, aQ, au, bI, Nat.mul_one, aL, acs, Ty.size, Ty.dflt, zG, reduceCtorEq, G, E, J, V, M, U, Tryd.st47, Tryd.st50, Tryd.td3, Tryd.td4, Tryd.td47, Tryd.td50, Mly.av, Mpr.av, bo, bn]; (repeat refine And.intro (by first | omega | assumption | exact rfl) ?_); (first | refine Y _ ?_ | refine Or.inl (Y _ ?_)); clear Y K0; simp only [put, app, a9, af, zE, zS, E])
            refine ai ?_
            refine hK51 _ ?_; clear hK51; refine ae [2, 3, 4, 5, 6, 7, 10, 11, 12, 13, 14, 15, 16, 17, 18, 19, 20, 63, 87, 100, 109, 111] ?_; simp only [Z, lkp, zE, reduceCtorEq, G, a8, E]
            refine aP ?_
            refine ⟨by first | exact .inl rfl | exact .inr rfl, _, rfl, ?_⟩; simp only [fzV, fz1, fzC, List.map_cons, List.map_nil, Z, lkp, zE, reduceCtorEq, G, a8, E, Mly.av, Mpr.av, bo, bn]
            rw [e9]
            first
            | exact VLE.of_eq rfl
            | exact bl ⟨aT ⟨.refl _, .refl _, aH rfl, aH rfl, trivial⟩, aT ⟨aH rfl, .refl _, .refl _, trivial⟩, aM (.refl _), aM (.refl _), trivial⟩
            | exact bl ⟨aT ⟨.refl _, .refl _, aH rfl, aH rfl, trivial⟩, aT ⟨.refl _, .refl _, .refl _, trivial⟩, aM (.refl _), aM (.refl _), trivial⟩
            | exact bl ⟨aT ⟨.refl _, .refl _, .refl _, .refl _, trivial⟩, aT ⟨aH rfl, .refl _, .refl _, trivial⟩, aM (.refl _), aM (.refl _), trivial⟩
           ·(try simp only [zB, reduceCtorEq] at hc50)
            have hfl : ¬ (bB m p k a).S.length = 128 := by omega
            obtain ⟨g1, hsg, g3⟩ := fa (w := (cwM (bB m p k a) k a)) hps hfl
            have hs1 : (bB m p k (a + 1)).S = (bB m p k a).S ++ [((aN m p (cxM (bB m p k a) k) (a : Int)), (cwM (bB m p k a) k a))] := by rw [cM]; exact g3
            have hk1 : (bB m p k (a + 1)).nr = (bB m p k a).nr ++ [(ct (bB m p k a).S (aN m p (cxM (bB m p k a) k) (a : Int)) : Int)] := by rw [cM]; show _ ++ [sgK _ _] = _; rw [g1, ← hpe]
            have hk2 : (bB m p k (a + 1)).os = (bB m p k a).os ++ [(aO m p (cxM (bB m p k a) k) (a : Int)).getD 0 0] := by rw [cM]; rfl
            refine aJ ?_
            refine hK48 _ ?_; clear hK48; refine ae [2, 3, 4, 5, 6, 7, 10, 11, 12, 13, 14, 15, 16, 17, 18, 19, 20, 63, 87, 100, 109, 111] ?_; simp only [Z, lkp, zE, reduceCtorEq, G, a8, E]
            refine aa fun K52 hK52 => ?_
            refine aj hP hN rfl ?_
            iterate 5 (refine ad rfl fun K0 Y => ?_; simp only [zE, op1, ev, lkp, ah, ag, aV, b9, bJ, rep, aL, aQ, au, Ty.size, aF, bu, bh, ba, bb, bq, Nat.div_one, aK, bf, dite_true, reduceCtorEq, G, E, J, V, M, U, Tryd.el95, Tryd.el96, Tryd.td1, Tryd.td95, Tryd.td96, Mly.av, Mpr.av, bo, bn]; (repeat refine And.intro (by first | omega | assumption | exact rfl) ?_); (first | refine Y _ ?_ | refine Or.inl (Y _ ?_)); clear Y K0; simp only [put, app, a9, af, zE, zS, E])
            refine ai ?_
            refine hK52 _ ?_; clear hK52; refine ae [2, 3, 4, 5, 6, 7, 10, 11, 12, 13, 14, 15, 16, 17, 18, 19, 20, 63, 87, 100, 109, 111] ?_; simp only [Z, lkp, zE, reduceCtorEq, G, a8, E]
            refine aj hP hN rfl ?_
            iterate 5 (refine ad rfl fun K0 Y => ?_; simp only [zE, op1, ev, lkp, ah, ag, aV, b9, bJ, rep, aL, aQ, au, Ty.size, aF, bu, bh, ba, bb, bq, Nat.div_one, aK, bf, dite_true, reduceCtorEq, G, E, J, V, M, U, Tryd.el22, Tryd.el25, Tryd.td1, Tryd.td22, Tryd.td25, Mly.av, Mpr.av, bo, bn]; (repeat refine And.intro (by first | omega | assumption | exact rfl) ?_); (first | refine Y _ ?_ | refine Or.inl (Y _ ?_)); clear Y K0; simp only [put, app, a9, af, zE, zS, E])
            refine ai ?_
            refine hK45 _ ?_; clear hK45; refine ae [2, 3, 4, 5, 6, 7, 10, 11, 12, 13, 14, 15, 16, 17, 18, 19, 20, 63, 87, 100, 109, 111] ?_; simp only [Z, lkp, zE, reduceCtorEq, G, a8, E]
            refine aa fun K53 hK53 => ?_
            refine aj hP hN rfl ?_
            iterate 5 (refine ad rfl fun K0 Y => ?_; simp only [zE, op1, ev, lkp, ah, ag, aV, b9, bJ, rep, aL, aQ, au, Ty.size, aF, bu, bh, ba, bb, bq, Nat.div_one, aK, bf, dite_true, reduceCtorEq, G, E, J, V, M, U, Tryd.el25, Tryd.td1, Tryd.td25, Tryd.td3, Mly.av, Mpr.av, bo, bn]; (repeat refine And.intro (by first | omega | assumption | exact rfl) ?_); (first | refine Y _ ?_ | refine Or.inl (Y _ ?_)); clear Y K0; simp only [put, app, a9, af, zE, zS, E])
            refine ai ?_
            refine hK53 _ ?_; clear hK53; refine ae [2, 3, 4, 5, 6, 7, 10, 11, 12, 13, 14, 15, 16, 17, 18, 19, 20, 63, 87, 100, 109, 111] ?_; simp only [Z, lkp, zE, reduceCtorEq, G, a8, E]
            refine aj hP hN rfl ?_
            iterate 7 (refine ad rfl fun K0 Y => ?_; simp only [zE, op1, ev, lkp, ah, ag, aI, zG, Ty.dflt, Ty.size, Nat.mul_one, ne_eq, not_false_eq_true, Int.natCast_one, Int.mul_one, ay, aw, ax, acs, aq, aV, b9, bJ, rep, aL, aQ, au, aF, bu, bh, ba, bb, bq, Nat.div_one, aK, bf, dite_true, reduceCtorEq, G, E, J, V, M, U, Tryd.el25, Tryd.td1, Tryd.td25, Tryd.td3, Mly.av, Mpr.av, bo, bn]; (repeat refine And.intro (by first | omega | assumption | exact rfl) ?_); (first | refine Y _ ?_ | refine Or.inl (Y _ ?_)); clear Y K0; simp only [put, app, a9, af, zE, zS, E])
            refine ai ?_
            refine hK33 _ ?_; clear hK33; refine ae [2, 3, 4, 5, 6, 7, 10, 11, 12, 13, 14, 15, 16, 17, 18, 19, 20, 63, 87, 100, 109, 111] ?_; simp only [Z, lkp, zE, reduceCtorEq, G, a8, E]
            refine aj hP hN rfl ?_
            iterate 3 (refine ad rfl fun K0 Y => ?_; simp only [zE, op1, ev, lkp, ah, ag, aC, aD, aE, ao, aB, aR, reduceCtorEq, G, E, J, V, M, U, Tryd.td3, Mly.av, Mpr.av, bo, bn]; (repeat refine And.intro (by first | omega | assumption | exact rfl) ?_); refine Y _ ?_; clear Y K0; simp only [put, app, a9, af, zE, zS, E])
            refine ai ?_
            first
            | (refine ⟨_, _, ?_, aS [2, 3, 4, 5, 6, 7, 10, 11, 12, 13, 14, 15, 16], a + 1, r + 1, v1 + 1, v2 + 1, by omega, er hF (fz ho1 ho2 hsg), rfl, ?_⟩
               · omega
               · rw [hs1, hk1, hk2, ku, kK]; rfl)
            | (refine ⟨_, _, ?_, aS [2, 3, 4, 5, 6, 7, 10, 11, 12, 13, 14, 15, 16], a + 1, r + 1, v1, v2, by omega, er hF (fz ho1 ho2 hsg), rfl, ?_⟩
               · omega
               · rw [hs1, hk1, hk2]; rfl)
          ·(try simp only [zB, reduceCtorEq] at hc47)
           have hps : ct (bB m p k a).S (aN m p (cxM (bB m p k a) k) (a : Int)) < (bB m p k a).S.length := by have := lK (bB m p k a).S (aN m p (cxM (bB m p k a) k) (a : Int)); omega
           obtain ⟨g1, hsg, g3⟩ := fh (w := (cwM (bB m p k a) k a)) hps
           have hs1 : (bB m p k (a + 1)).S = (bB m p k a).S := by rw [cM]; exact g3
           have hk1 : (bB m p k (a + 1)).nr = (bB m p k a).nr ++ [(ct (bB m p k a).S (aN m p (cxM (bB m p k a) k) (a : Int)) : Int)] := by rw [cM]; show _ ++ [sgK _ _] = _; rw [g1]
           have hk2 : (bB m p k (a + 1)).os = (bB m p k a).os ++ [(aO m p (cxM (bB m p k a) k) (a : Int)).getD 0 0] := by rw [cM]; rfl
           refine aJ ?_
           refine hK45 _ ?_; clear hK45; refine ae [2, 3, 4, 5, 6, 7, 10, 11, 12, 13, 14, 15, 16, 17, 18, 19, 20, 63, 87, 100, 109] ?_; simp only [Z, lkp, zE, reduceCtorEq, G, a8, E]
           refine aa fun K54 hK54 => ?_
           refine aj hP hN rfl ?_
           iterate 5 (refine ad rfl fun K0 Y => ?_; simp only [zE, op1, ev, lkp, ah, ag, aV, b9, bJ, rep, aL, aQ, au, Ty.size, aF, bu, bh, ba, bb, bq, Nat.div_one, aK, bf, dite_true, reduceCtorEq, G, E, J, V, M, U, Tryd.el25, Tryd.td1, Tryd.td25, Tryd.td3, Mly.av, Mpr.av, bo, bn]; (repeat refine And.intro (by first | omega | assumption | exact rfl) ?_); (first | refine Y _ ?_ | refine Or.inl (Y _ ?_)); clear Y K0; simp only [put, app, a9, af, zE, zS, E])
           refine ai ?_
           refine hK54 _ ?_; clear hK54; refine ae [2, 3, 4, 5, 6, 7, 10, 11, 12, 13, 14, 15, 16, 17, 18, 19, 20, 63, 87, 100, 109] ?_; simp only [Z, lkp, zE, reduceCtorEq, G, a8, E]
           refine aj hP hN rfl ?_
           iterate 7 (refine ad rfl fun K0 Y => ?_; simp only [zE, op1, ev, lkp, ah, ag, aI, zG, Ty.dflt, Ty.size, Nat.mul_one, ne_eq, not_false_eq_true, Int.natCast_one, Int.mul_one, ay, aw, ax, acs, aq, aV, b9, bJ, rep, aL, aQ, au, aF, bu, bh, ba, bb, bq, Nat.div_one, aK, bf, dite_true, reduceCtorEq, G, E, J, V, M, U, Tryd.el25, Tryd.td1, Tryd.td25, Tryd.td3, Mly.av, Mpr.av, bo, bn]; (repeat refine And.intro (by first | omega | assumption | exact rfl) ?_); (first | refine Y _ ?_ | refine Or.inl (Y _ ?_)); clear Y K0; simp only [put, app, a9, af, zE, zS, E])
           refine ai ?_
           refine hK33 _ ?_; clear hK33; refine ae [2, 3, 4, 5, 6, 7, 10, 11, 12, 13, 14, 15, 16, 17, 18, 19, 20, 63, 87, 100, 109] ?_; simp only [Z, lkp, zE, reduceCtorEq, G, a8, E]
           refine aj hP hN rfl ?_
           iterate 3 (refine ad rfl fun K0 Y => ?_; simp only [zE, op1, ev, lkp, ah, ag, aC, aD, aE, ao, aB, aR, reduceCtorEq, G, E, J, V, M, U, Tryd.td3, Mly.av, Mpr.av, bo, bn]; (repeat refine And.intro (by first | omega | assumption | exact rfl) ?_); refine Y _ ?_; clear Y K0; simp only [put, app, a9, af, zE, zS, E])
           refine ai ?_
           first
           | (refine ⟨_, _, ?_, aS [2, 3, 4, 5, 6, 7, 10, 11, 12, 13, 14, 15, 16], a + 1, r + 1, v1 + 1, v2 + 1, by omega, er hF (fz ho1 ho2 hsg), rfl, ?_⟩
              · omega
              · rw [hs1, hk1, hk2, ku, kK]; rfl)
           | (refine ⟨_, _, ?_, aS [2, 3, 4, 5, 6, 7, 10, 11, 12, 13, 14, 15, 16], a + 1, r + 1, v1, v2, by omega, er hF (fz ho1 ho2 hsg), rfl, ?_⟩
              · omega
              · rw [hs1, hk1, hk2]; rfl)
       ·(try simp only [zB, reduceCtorEq] at hc32)
        refine bK ?_
        refine hK27 _ ?_; clear hK27; refine ae [2, 3, 4, 5, 6, 7, 10, 11, 12, 13, 14, 15, 16, 63] ?_; simp only [Z, lkp, zE, reduceCtorEq, G, a8, E]
        refine aa fun K55 hK55 => ?_
        have hab : a = p.ab.toNat := by omega
        have hcl := eU (m := m) (p := p) (i := k) a; have hrn := dx m p k; rw [hrn.1, hrn.2.1] at hcl; have hcl3 := hcl.2.2.1; have hcl4 := hcl.2.2.2; simp only [List.length_nil, Nat.zero_add] at hcl3 hcl4
        have hSI2 := (eR hm hp hi (gb hR hkl (by rw [← hab]; exact hF))).le
        have hcn := hrn.2.2.1; have hco := hrn.2.2.2; have hkk := dI hm hp hi hR
        refine ck 9 rfl ?_; simp only [List.map_cons, List.map_nil, zS, G, and_self, and_true, true_and, and_false, false_and, if_true, if_false, eq_self, reduceCtorEq, Nat.one_ne_zero, Nat.zero_ne_one]
        refine ck 10 rfl ?_; simp only [List.map_cons, List.map_nil, zS, G, and_self, and_true, true_and, and_false, false_and, if_true, if_false, eq_self, reduceCtorEq, Nat.one_ne_zero, Nat.zero_ne_one]
        refine cv (n := 10) (L1 := [_, _, _, _, _, _, _, _, _, _]) rfl rfl (by rw [hB]; decide) rfl rfl ?_
        refine cv (n := 9) (L1 := [_, _, _, _, _, _, _, _, _]) rfl rfl (by rw [hB]; decide) rfl rfl ?_
        refine aj hP hN rfl ?_
        iterate 7 (refine ad rfl fun K0 Y => ?_; simp only [zE, op1, ev, lkp, ah, ag, am, ay, Nat.mul_one, aw, ax, acs, Ty.dflt, zG, aq, aV, b9, bJ, rep, aL, aQ, au, Ty.size, aF, bu, bh, ba, bb, bq, Nat.div_one, aK, bf, dite_true, bI, reduceCtorEq, G, E, J, V, M, U, Tryd.el22, Tryd.el25, Tryd.st47, Tryd.td1, Tryd.td2, Tryd.td22, Tryd.td25, Tryd.td47, Mly.av, Mpr.av, bo, bn]; (repeat refine And.intro (by first | omega | assumption | exact rfl) ?_); (first | refine Y _ ?_ | refine Or.inl (Y _ ?_)); clear Y K0; simp only [put, app, a9, af, zE, zS, E])
        refine ai ?_
        refine hK55 _ ?_; clear hK55; refine ae [2, 3, 4, 5, 6, 7, 10, 11, 12, 13, 14, 15, 16, 63] ?_; simp only [Z, lkp, zE, reduceCtorEq, G, a8, E]
        refine aj hP hN rfl ?_
        iterate 7 (refine ad rfl fun K0 Y => ?_; simp only [zE, op1, ev, lkp, ah, ag, am, ay, Nat.mul_one, aw, ax, acs, Ty.dflt, zG, aq, aV, b9, bJ, rep, aL, aQ, au, Ty.size, aF, bu, bh, ba, bb, bq, Nat.div_one, aK, bf, dite_true, bI, reduceCtorEq, G, E, J, V, M, U, Tryd.el22, Tryd.el25, Tryd.st47, Tryd.td1, Tryd.td22, Tryd.td25, Tryd.td3, Tryd.td47, Mly.av, Mpr.av, bo, bn]; (repeat refine And.intro (by first | omega | assumption | exact rfl) ?_); (first | refine Y _ ?_ | refine Or.inl (Y _ ?_)); clear Y K0; simp only [put, app, a9, af, zE, zS, E])
        refine ai ?_
        refine hK25 _ ?_; clear hK25; refine ae [2, 3, 4, 5, 6, 7, 10, 11, 12, 13, 14, 15, 16, 63] ?_; simp only [Z, lkp, zE, reduceCtorEq, G, a8, E]
        refine aj hP hN rfl ?_
        iterate 3 (refine ad rfl fun K0 Y => ?_; simp only [zE, op1, ev, lkp, ah, ag, aC, aD, aE, ao, aB, aR, reduceCtorEq, G, E, J, V, M, U, Tryd.td3, Mly.av, Mpr.av, bo, bn]; (repeat refine And.intro (by first | omega | assumption | exact rfl) ?_); refine Y _ ?_; clear Y K0; simp only [put, app, a9, af, zE, zS, E])
        refine ai ?_
        have hR2 := gb hR hkl (by rw [← hab]; exact hF)
        refine ⟨_, _, ?_, aS [2, 3, 4, 5, 6, 7, 10, 11, 12, 13], k + 1, u + 1, v1, v2, hR2, rfl, ?_⟩
        · omega
        · rw [fk, ← hab, hcl.1, hcl.2.1]; rfl
     ·(try simp only [zB, reduceCtorEq] at hc24)
      refine bK ?_
      refine hK19 _ ?_; clear hK19; refine ae [2, 3, 4, 5, 6, 7, 10, 11, 12, 13, 57] ?_; simp only [Z, lkp, zE, reduceCtorEq, G, a8, E]
      refine aa fun K56 hK56 => ?_
      have e9 := (eH hv1 hv2 hi).trans (mc (dI hm hp hi hR) hR (by omega))
      refine dg 7 6 rfl rfl ?_; simp only [List.map_cons, List.map_nil, frC, zS, G, and_self, and_true, true_and, and_false, false_and, if_true, if_false, eq_self, reduceCtorEq, Nat.one_ne_zero, Nat.zero_ne_one]
      refine dg 8 6 rfl rfl ?_; simp only [List.map_cons, List.map_nil, frC, zS, G, and_self, and_true, true_and, and_false, false_and, if_true, if_false, eq_self, reduceCtorEq, Nat.one_ne_zero, Nat.zero_ne_one]
      refine aj hP hN rfl ?_
      iterate 6 (refine ad rfl fun K0 Y => ?_; simp only [zE, op1, ev, lkp, ah, ag, ay, Nat.mul_one, aw, ax, acs, Ty.dflt, zG, aq, c9, b9, aQ, au, bI, aL, Ty.size, reduceCtorEq, G, E, J, V, M, U, Tryd.st47, Tryd.st50, Tryd.td3, Tryd.td4, Tryd.td47, Tryd.td50, Mly.av, Mpr.av, bo, bn]; (repeat refine And.intro (by first | omega | assumption | exact rfl) ?_); (first | refine Y _ ?_ | refine Or.inl (Y _ ?_)); clear Y K0; simp only [put, app, a9, af, zE, zS, E])
      refine ai ?_
      refine hK56 _ ?_; clear hK56; refine ae [2, 3, 4, 5, 6, 7, 10, 11, 12, 13, 57] ?_; simp only [Z, lkp, zE, reduceCtorEq, G, a8, E]
      refine aP ?_
      refine ⟨by first | exact .inl rfl | exact .inr rfl, _, rfl, ?_⟩; simp only [fzV, fz1, fzC, List.map_cons, List.map_nil, Z, lkp, zE, reduceCtorEq, G, a8, E, Mly.av, Mpr.av, bo, bn]
      rw [e9]
      first
      | exact VLE.of_eq rfl
      | exact bl ⟨aT ⟨.refl _, .refl _, aH rfl, aH rfl, trivial⟩, aT ⟨aH rfl, .refl _, .refl _, trivial⟩, aM (.refl _), aM (.refl _), trivial⟩
      | exact bl ⟨aT ⟨.refl _, .refl _, aH rfl, aH rfl, trivial⟩, aT ⟨.refl _, .refl _, .refl _, trivial⟩, aM (.refl _), aM (.refl _), trivial⟩
      | exact bl ⟨aT ⟨.refl _, .refl _, .refl _, .refl _, trivial⟩, aT ⟨aH rfl, .refl _, .refl _, trivial⟩, aM (.refl _), aM (.refl _), trivial⟩
end Go.Proofs.YtgmgnkmgofkfpaaDoor
namespace Go.Proofs.YtgmgnkmgofkfpaaDoor
open Go Go.AV
open Nat renaming reduceEqDiff → G, reduceAdd → E, reduceLeDiff → J, reduceLT → V, reduceMul → M, reduceSub → U
open List renaming set_cons_zero → aA, set_cons_succ → az
set_option maxRecDepth 100000 in
theorem ny (p : Mpr) : ch Tryd.prog 15 [p.av] (.one (.bool ((decide ((p.nx.length : Int) ≤ 10) && decide ((p.sy.length : Int) ≤ 10)) && decide (p.inp ≤ 6)))) := by
 refine bp Tryd.func15 rfl (by kernel_rfl) (Nat.le_of_ble_eq_true rfl) rfl fun C hP hN hB => ?_
 replace hN : C.N = 18 := hN
 simp only [a8, E]
 refine aa fun K1 hK1 => ?_
 refine aj hP hN rfl ?_
 iterate 2 (refine ad rfl fun K0 Y => ?_; simp only [zE, op1, ev, lkp, ah, ag, cA, au, reduceCtorEq, G, E, J, V, M, U, Tryd.st24, Tryd.td24, Tryd.td4, Mpr.av]; (repeat refine And.intro (by first | omega | assumption | exact rfl) ?_); refine Y _ ?_; clear Y K0; simp only [put, app, a9, af, zE, zS, E])
 refine ai ?_
 refine hK1 _ ?_; clear hK1; refine ae [0, 1, 2] ?_; simp only [Z, lkp, zE, reduceCtorEq, G, a8, E]
 refine aa fun K2 hK2 => ?_
 refine aj hP hN rfl ?_
 iterate 4 (refine ad rfl fun K0 Y => ?_; simp only [zE, op1, ev, lkp, ah, ag, am, ay, Nat.mul_one, aw, ax, acs, Ty.dflt, zG, aq, aF, bu, bh, ba, bb, bq, Nat.div_one, aK, bf, Ty.size, aL, dite_true, aC, aD, aE, ao, aB, aR, reduceCtorEq, G, E, J, V, M, U, Tryd.el22, Tryd.st24, Tryd.td22, Tryd.td24, Tryd.td3, Tryd.td4, Mpr.av]; (repeat refine And.intro (by first | omega | assumption | exact rfl) ?_); (first | refine Y _ ?_ | refine Or.inl (Y _ ?_)); clear Y K0; simp only [put, app, a9, af, zE, zS, E])
 (refine ad rfl fun K0 Y => ?_; simp only [zE, op1, ev, lkp, ah, ag, ev, reduceCtorEq, G, E, J, V, M, U, Tryd.td4, Mpr.av]; refine Y _ ?_; clear Y K0; simp only [put, app, a9, af, zE, zS, E])
 refine' aY (want := true) 4 rfl (m := 7) (by simp only [Z, lkp, zE, reduceCtorEq, G, a8, E]; exact rfl) (by kernel_rfl) rfl rfl rfl rfl rfl (fun hg3 => ?a3) ?b3 ?c3
 case a3 =>
  have hq3 := hg3; (try simp only [zB, reduceCtorEq] at hg3); simp only [List.take_succ_cons, List.take_zero, List.cons_append, List.nil_append]
  (refine ar rfl fun K0 Y => ?_; simp only [zE, op1, ev, lkp, ah, ag, am, reduceCtorEq, G, E, J, V, M, U, Tryd.st24, Tryd.td24, Tryd.td4, Mpr.av]; (repeat refine And.intro (by first | omega | assumption | exact rfl) ?_); refine Y _ ?_; clear Y K0; simp only [put, app, a9, af, zE, zS, E])
  (refine ar rfl fun K0 Y => ?_; simp only [zE, op1, ev, lkp, ah, ag, ay, Nat.mul_one, aw, ax, acs, Ty.dflt, zG, aq, reduceCtorEq, G, E, J, V, M, U, Tryd.el22, Tryd.td22, Mpr.av]; (repeat refine And.intro (by first | omega | assumption | exact rfl) ?_); refine Y _ ?_; clear Y K0; simp only [put, app, a9, af, zE, zS, E])
  (refine ar rfl fun K0 Y => ?_; simp only [zE, op1, ev, lkp, ah, ag, aF, bu, bh, ba, bb, bq, Nat.div_one, aK, bf, Ty.size, aL, dite_true, reduceCtorEq, G, E, J, V, M, U, Tryd.el22, Tryd.td22, Tryd.td3, Mpr.av]; (repeat refine And.intro (by first | omega | assumption | exact rfl) ?_); (first | refine Y _ ?_ | refine Or.inl (Y _ ?_)); clear Y K0; simp only [put, app, a9, af, zE, zS, E])
  (refine ar rfl fun K0 Y => ?_; simp only [zE, op1, ev, lkp, ah, ag, aC, aD, aE, ao, aB, aR, reduceCtorEq, G, E, J, V, M, U, Tryd.td3, Tryd.td4, Mpr.av]; (repeat refine And.intro (by first | omega | assumption | exact rfl) ?_); refine Y _ ?_; clear Y K0; simp only [put, app, a9, af, zE, zS, E])
  (refine ad rfl fun K0 Y => ?_; simp only [zE, op1, ev, lkp, ah, ag, bt, reduceCtorEq, G, E, J, V, M, U, Tryd.td4, Mpr.av]; refine Y _ ?_; clear Y K0; simp only [put, app, a9, af, zE, zS, E])
  refine ai ?_
  refine ⟨by simp only [Z, lkp, zE, reduceCtorEq, G, a8, E]; exact rfl, rfl, ?_, rfl⟩; (repeat refine aZ rfl ?_); exact bz (by exact rfl) hq3
 case b3 => exact bv (by first | rfl | (simp [bV]; done) | decide)
 simp only [bj, bg]
 (refine ad rfl fun K0 Y => ?_; simp only [zE, op1, ev, lkp, ah, ag, ev, reduceCtorEq, G, E, J, V, M, U, Tryd.td4, Mpr.av]; refine Y _ ?_; clear Y K0; simp only [put, app, a9, af, zE, zS, E])
 refine' aY (want := true) 3 rfl (m := 13) (by simp only [Z, lkp, zE, reduceCtorEq, G, a8, E]; exact rfl) (by kernel_rfl) rfl rfl rfl rfl rfl (fun hg4 => ?a4) ?b4 ?c4
 case a4 =>
  have hq4 := hg4; (try simp only [zB, reduceCtorEq] at hg4); simp only [List.take_succ_cons, List.take_zero, List.cons_append, List.nil_append]
  (refine ar rfl fun K0 Y => ?_; simp only [zE, op1, ev, lkp, ah, ag, am, reduceCtorEq, G, E, J, V, M, U, Tryd.st24, Tryd.td24, Mpr.av]; (repeat refine And.intro (by first | omega | assumption | exact rfl) ?_); refine Y _ ?_; clear Y K0; simp only [put, app, a9, af, zE, zS, E])
  (refine ar rfl fun K0 Y => ?_; simp only [zE, op1, ev, lkp, ah, ag, ay, Nat.mul_one, aw, ax, acs, Ty.dflt, zG, aq, reduceCtorEq, G, E, J, V, M, U, Tryd.td3, Mpr.av]; (repeat refine And.intro (by first | omega | assumption | exact rfl) ?_); refine Y _ ?_; clear Y K0; simp only [put, app, a9, af, zE, zS, E])
  (refine ar rfl fun K0 Y => ?_; simp only [zE, op1, ev, lkp, ah, ag, aC, aD, aE, ao, aB, aR, reduceCtorEq, G, E, J, V, M, U, Tryd.td3, Tryd.td4, Mpr.av]; (repeat refine And.intro (by first | omega | assumption | exact rfl) ?_); refine Y _ ?_; clear Y K0; simp only [put, app, a9, af, zE, zS, E])
  (refine ad rfl fun K0 Y => ?_; simp only [zE, op1, ev, lkp, ah, ag, bt, reduceCtorEq, G, E, J, V, M, U, Tryd.td4, Mpr.av]; refine Y _ ?_; clear Y K0; simp only [put, app, a9, af, zE, zS, E])
  refine ai ?_
  refine ⟨by simp only [Z, lkp, zE, reduceCtorEq, G, a8, E]; exact rfl, rfl, ?_, rfl⟩; (repeat refine aZ rfl ?_); exact bz (by exact rfl) hq4
 case b4 => exact bv (by first | rfl | (simp [bV]; done) | decide)
 simp only [bj, bg]
 (refine ad rfl fun K0 Y => ?_; simp only [zE, op1, ev, lkp, ah, ag, ev, reduceCtorEq, G, E, J, V, M, U, Tryd.td4, Mpr.av]; refine Y _ ?_; clear Y K0; simp only [put, app, a9, af, zE, zS, E])
 refine ai ?_
 refine hK2 _ ?_; clear hK2; refine ae [0, 1, 2] ?_; simp only [Z, lkp, zE, reduceCtorEq, G, a8, E]
 refine aP ?_
 refine ⟨by first | exact .inl rfl | exact .inr rfl, _, rfl, ?_⟩; simp only [fzV, fz1, fzC, List.map_cons, List.map_nil, Z, lkp, zE, reduceCtorEq, G, a8, E, Mpr.av]
 refine VLE.of_eq ?_
 rfl
end Go.Proofs.YtgmgnkmgofkfpaaDoor
