/- Contracts of functions of this seat, each out of a walk through its code, and plain facts on what they compute. Conditions: those that each theorem names. -/
import Derived.Test.YtgmgnkmgofkfpaaDoorW00
set_option linter.unusedSimpArgs false
set_option linter.unusedVariables false
namespace Go.Proofs.YtgmgnkmgofkfpaaDoor
open Go Go.AV
open Nat renaming reduceEqDiff → G, reduceAdd → E, reduceLeDiff → J, reduceLT → V, reduceMul → M, reduceSub → U
open List renaming set_cons_zero → aA, set_cons_succ → az
set_option maxRecDepth 100000 in
set_option maxHeartbeats 2000000 in
theorem pU (m : Mly) (p : Mpr) (xs : List Int) (a : Int) (hm : MOK m) (hp : POK p) (hi : m.inp = p.inp) (hs : SB m p xs) (S : List SS) (u : Nat) (N O : List (List Int)) (r : Nat) (nr orr : List Int) : dc Tryd.prog [.vars 47 [.int .i64 m.inp, .int .i64 m.st, .list (.list (.int .i64)) m.nx, .list (.list (.int .i64)) m.ot], .vars 24 [.int .i64 p.inp, .int .i64 p.ab, .int .i64 p.st, .list (.list (.int .i64)) p.nx, .list (.list (.int .i64)) p.sy], .vars 47 [.int .i64 0, .int .i64 0, .nils, .nils], .vars 50 [.nils, .int .i64 0, .int .i64 0], .mp 82 .int (esS S), .vars 85 [.int .i64 m.inp, .int .i64 m.st, .list (.list (.int .i64)) m.nx, .list (.list (.int .i64)) m.ot, .int .i64 p.inp, .int .i64 p.ab, .int .i64 p.st, .list (.list (.int .i64)) p.nx, .list (.list (.int .i64)) p.sy, .row 6 S.length, .mpv 4], .row (.pair (.list (.int .i64)) (.pair (.list (.int .i64)) .unit)) 90 S.length (List.map dp S), .vars 47 [.int .i64 p.ab, .int .i64 0, .row 8 u, .row 9 u], .row (.list (.int .i64)) 25 u N, .row (.list (.int .i64)) 25 u O, .row (.int .i64) 3 r nr, .row (.int .i64) 3 r orr] 45 [.one (.ptr 5 0 0 0), .one (.list (.int .i64) xs), .one (.int .i64 a)] { av := .tup [.one (.list (.int .i64) (aO m p xs a)), .one (.list (.int .i64) (aN m p xs a))], fp := [0, 1, 2, 3, 4, 5, 6, 7, 8, 9, 10, 11] } := by
 have hxl := hs.len hm hp; have hx0 := hs.pos; have hn1 := hm.n1; have hn2 := hm.n2; have p1 := hp.i1; have p2 := hp.i2; have a7 := hp.sl; have ol := hm.ol; have b1 := hp.n1; have b2 := hp.n2
 refine d7 _ _ Tryd.func45 rfl (by kernel_rfl) (Nat.le_of_ble_eq_true rfl) (by intro k hk; simp only [List.length_cons, List.length_nil, Nat.zero_add, E] at hk; simp only [List.mem_cons, List.not_mem_nil, or_false]; omega) (fun C hP hN hB => ?_)
 replace hB : C.bL.length = 12 := by rw [hB]; rfl
 replace hN : C.N = 117 := hN
 simp only [a8, E]
 refine aa fun K1 hK1 => ?_
 refine aj hP hN rfl ?_
 iterate 2 (refine ad rfl fun K0 Y => ?_; simp only [zE, op1, ev, lkp, ah, ag, ev, reduceCtorEq, G, E, J, V, M, U, Tryd.el25, Tryd.td25, Int.toNat_natCast]; refine Y _ ?_; clear Y K0; simp only [put, app, a9, af, zE, zS, E])
 refine ai ?_
 refine hK1 _ ?_; clear hK1; refine ae [0, 1, 2, 6, 7] ?_; simp only [Z, lkp, zE, reduceCtorEq, G, a8, E]
 refine aa fun K2 hK2 => ?_
 refine aj hP hN rfl ?_
 iterate 7 (refine ad rfl fun K0 Y => ?_; simp only [zE, op1, ev, lkp, ah, ag, cO, am, ay, Nat.mul_one, aw, ax, acs, Ty.dflt, zG, aq, aF, bu, bh, ba, bb, bq, Nat.div_one, aK, bf, Ty.size, aL, dite_true, reduceCtorEq, G, E, J, V, M, U, Tryd.el22, Tryd.st47, Tryd.st85, Tryd.td103, Tryd.td2, Tryd.td22, Tryd.td3, Tryd.td47, Tryd.td85, Int.toNat_natCast]; (repeat refine And.intro (by first | omega | assumption | exact rfl) ?_); (first | refine Y _ ?_ | refine Or.inl (Y _ ?_)); clear Y K0; simp only [put, app, a9, af, zE, zS, E])
 refine ai ?_
 refine hK2 _ ?_; clear hK2; refine ae [0, 1, 2, 6, 7, 8] ?_; simp only [Z, lkp, zE, reduceCtorEq, G, a8, E]
 refine aa fun K3 hK3 => ?_
 refine aa fun K4 hK4 => ?_
 refine aj hP hN rfl ?_
 iterate 3 (refine ad rfl fun K0 Y => ?_; simp only [zE, op1, ev, lkp, ah, ag, aF, bu, bh, ba, bb, bq, Nat.div_one, aK, bf, Ty.size, aL, dite_true, reduceCtorEq, G, E, J, V, M, U, Tryd.el25, Tryd.td25, Tryd.td3, Int.toNat_natCast]; (repeat refine And.intro (by first | omega | assumption | exact rfl) ?_); (first | refine Y _ ?_ | refine Or.inl (Y _ ?_)); clear Y K0; simp only [put, app, a9, af, zE, zS, E])
 refine ai ?_
 refine hK4 _ ?_; clear hK4; refine ae [0, 1, 2, 6, 7, 8, 21, 22, 23] ?_; simp only [Z, lkp, zE, reduceCtorEq, G, a8, E]
 refine aW ?_
 refine cL 6 (.int .i64) 3 (by decide) rfl ?_; simp only [List.length_cons, List.length_nil, List.cons_append, List.nil_append, Nat.zero_add, E]
 refine cL 7 (.int .i64) 3 (by decide) rfl ?_; simp only [List.length_cons, List.length_nil, List.cons_append, List.nil_append, Nat.zero_add, E]
 refine bM (fun n5 s5 => ∃ (k : Nat) (v1 v2 : Nat), (k ≤ xs.length) ∧ n5 = xs.length - k ∧ s5 = { env := [(0, .one (.ptr 5 0 0 0)), (1, .one (.list (.int .i64) xs)), (2, .one (.int .i64 a)), (6, .one (.row 12 v1)), (7, .one (.row 13 v2)), (8, .one (.int .i64 (m.nx.length : Int))), (21, .one (.list (.int .i64) xs)), (22, .one (.int .i64 (xs.length : Int))), (23, .one (.int .i64 (k : Int)))], L := [.vars 47 [.int .i64 m.inp, .int .i64 m.st, .list (.list (.int .i64)) m.nx, .list (.list (.int .i64)) m.ot], .vars 24 [.int .i64 p.inp, .int .i64 p.ab, .int .i64 p.st, .list (.list (.int .i64)) p.nx, .list (.list (.int .i64)) p.sy], .vars 47 [.int .i64 0, .int .i64 0, .nils, .nils], .vars 50 [.nils, .int .i64 0, .int .i64 0], .mp 82 .int (esS S), .vars 85 [.int .i64 m.inp, .int .i64 m.st, .list (.list (.int .i64)) m.nx, .list (.list (.int .i64)) m.ot, .int .i64 p.inp, .int .i64 p.ab, .int .i64 p.st, .list (.list (.int .i64)) p.nx, .list (.list (.int .i64)) p.sy, .row 6 S.length, .mpv 4], .row (.pair (.list (.int .i64)) (.pair (.list (.int .i64)) .unit)) 90 S.length (List.map dp S), .vars 47 [.int .i64 p.ab, .int .i64 0, .row 8 u, .row 9 u], .row (.list (.int .i64)) 25 u N, .row (.list (.int .i64)) 25 u O, .row (.int .i64) 3 r nr, .row (.int .i64) 3 r orr, .row (.int .i64) 3 v1 (oA m p (xs.take k) a), .row (.int .i64) 3 v2 (nA m p (xs.take k) a)] }) ?_ ?_
 ·exact ⟨_, _, aS [0, 1, 2, 6, 7, 8, 21, 22, 23], 0, 0, 0, Nat.zero_le _, rfl, rfl⟩
 ·rintro n5 s5 ⟨k, v1, v2, hk, rfl, rfl⟩
  refine aa fun K6 hK6 => ?_
  refine aj hP hN rfl ?_
  (refine ad rfl fun K0 Y => ?_; simp only [zE, op1, ev, lkp, ah, ag, aC, aD, aE, ao, aB, aR, reduceCtorEq, G, E, J, V, M, U, Tryd.td3, Int.toNat_natCast]; (repeat refine And.intro (by first | omega | assumption | exact rfl) ?_); refine Y _ ?_; clear Y K0; simp only [put, app, a9, af, zE, zS, E])
  refine ai ?_
  refine hK6 _ ?_; clear hK6; refine ae [0, 1, 2, 6, 7, 8, 21, 22, 23, 24] ?_; simp only [Z, lkp, zE, reduceCtorEq, G, a8, E]
  refine aa fun K7 hK7 => ?_
  refine aG (by simp only [ev, Z, lkp, zE, reduceCtorEq, G, a8, E]; exact rfl) (fun hc8 => ?_) (fun hc8 => ?_)
  ·(try simp only [zB, reduceCtorEq] at hc8)
   refine aJ ?_
   refine hK7 _ ?_; clear hK7; refine ae [0, 1, 2, 6, 7, 8, 21, 22, 23, 24] ?_; simp only [Z, lkp, zE, reduceCtorEq, G, a8, E]
   refine aa fun K9 hK9 => ?_
   refine aW ?_
   refine aa fun K10 hK10 => ?_
   refine aj hP hN rfl ?_
   iterate 3 (refine ad rfl fun K0 Y => ?_; simp only [zE, op1, ev, lkp, ah, ag, aI, zG, Ty.dflt, Ty.size, Nat.mul_one, ne_eq, not_false_eq_true, Int.natCast_one, Int.mul_one, ay, aw, ax, acs, aq, reduceCtorEq, G, E, J, V, M, U, Tryd.el25, Tryd.td25, Tryd.td3, Int.toNat_natCast]; (repeat refine And.intro (by first | omega | assumption | exact rfl) ?_); refine Y _ ?_; clear Y K0; simp only [put, app, a9, af, zE, zS, E])
   refine ai ?_
   refine hK10 _ ?_; clear hK10; refine ae [0, 1, 2, 6, 7, 8, 10, 21, 22, 23, 24] ?_; simp only [Z, lkp, zE, reduceCtorEq, G, a8, E]
   refine aa fun K11 hK11 => ?_
   have hxr := hs.rng (xs.getD k 0) (cJ (w := xs) (i := k) (by omega))
   have hq00 := (eE hm hp hi hxr (c := 0) (by omega)).1
   obtain ⟨hq1, hr1⟩ := qO (m := m) hxr.1
   have hol := l7 (m := m) (p := p) hp.i2 (xs.take k) a; rw [List.length_take] at hol
   refine bW hP hN Tryd.mixed rfl ?_
   iterate 8 (refine ad rfl fun K0 Y => ?_; simp only [zE, op1, ev, lkp, ah, ag, aC, aD, aE, ao, aB, aR, reduceCtorEq, G, E, J, V, M, U, Tryd.td3, Int.toNat_natCast, hq1, hr1]; (repeat refine And.intro (by first | omega | assumption | exact rfl) ?_); refine Y _ ?_; clear Y K0; simp only [put, app, a9, af, zE, zS, E])
   refine ai ?_
   refine ⟨by kernel_rfl, ?_⟩
   refine hK11 _ ?_; clear hK11; refine ae [0, 1, 2, 6, 7, 8, 10, 11, 12, 21, 22, 23, 24] ?_; simp only [Z, lkp, zE, reduceCtorEq, G, a8, E]
   refine aa fun K12 hK12 => ?_
   refine aj hP hN rfl ?_
   (refine ad rfl fun K0 Y => ?_; simp only [zE, op1, ev, lkp, ah, ag, ev, reduceCtorEq, G, E, J, V, M, U, Tryd.td4, Int.toNat_natCast]; refine Y _ ?_; clear Y K0; simp only [put, app, a9, af, zE, zS, E])
   refine ai ?_
   refine hK12 _ ?_; clear hK12; refine ae [0, 1, 2, 6, 7, 8, 10, 11, 12, 13, 21, 22, 23, 24] ?_; simp only [Z, lkp, zE, reduceCtorEq, G, a8, E]
   refine aa fun K13 hK13 => ?_
   refine aa fun K14 hK14 => ?_
   refine aj hP hN rfl ?_
   iterate 6 (refine ad rfl fun K0 Y => ?_; simp only [zE, op1, ev, lkp, ah, ag, cO, am, ay, Nat.mul_one, aw, ax, acs, Ty.dflt, zG, aq, reduceCtorEq, G, E, J, V, M, U, Tryd.st24, Tryd.st85, Tryd.td1, Tryd.td103, Tryd.td24, Tryd.td3, Tryd.td85, Int.toNat_natCast]; (repeat refine And.intro (by first | omega | assumption | exact rfl) ?_); (first | refine Y _ ?_ | refine Or.inl (Y _ ?_)); clear Y K0; simp only [put, app, a9, af, zE, zS, E])
   refine ai ?_
   refine hK14 _ ?_; clear hK14; refine ae [0, 1, 2, 6, 7, 8, 10, 11, 12, 13, 21, 22, 23, 24, 37, 38] ?_; simp only [Z, lkp, zE, reduceCtorEq, G, a8, E]
   refine aW ?_
   refine bM (fun n15 s15 => ∃ (c : Nat) (v1 v2 : Nat), ((c : Int) ≤ p.inp) ∧ n15 = p.inp.toNat - c ∧ s15 = { env := [(0, .one (.ptr 5 0 0 0)), (1, .one (.list (.int .i64) xs)), (2, .one (.int .i64 a)), (6, .one (.row 12 v1)), (7, .one (.row 13 v2)), (8, .one (.int .i64 (m.nx.length : Int))), (10, .one (.int .i64 (xs.getD k 0))), (11, .one (.int .i64 ((qxN m (xs.getD k 0)) : Int))), (12, .one (.int .i64 ((sxN m (xs.getD k 0)) : Int))), (13, .one (.bool (!(cK p (qxN m (xs.getD k 0)) a c).isEmpty))), (21, .one (.list (.int .i64) xs)), (22, .one (.int .i64 (xs.length : Int))), (23, .one (.int .i64 (k : Int))), (37, .one (.int .i64 p.inp)), (38, .one (.int .i64 (c : Int)))], L := [.vars 47 [.int .i64 m.inp, .int .i64 m.st, .list (.list (.int .i64)) m.nx, .list (.list (.int .i64)) m.ot], .vars 24 [.int .i64 p.inp, .int .i64 p.ab, .int .i64 p.st, .list (.list (.int .i64)) p.nx, .list (.list (.int .i64)) p.sy], .vars 47 [.int .i64 0, .int .i64 0, .nils, .nils], .vars 50 [.nils, .int .i64 0, .int .i64 0], .mp 82 .int (esS S), .vars 85 [.int .i64 m.inp, .int .i64 m.st, .list (.list (.int .i64)) m.nx, .list (.list (.int .i64)) m.ot, .int .i64 p.inp, .int .i64 p.ab, .int .i64 p.st, .list (.list (.int .i64)) p.nx, .list (.list (.int .i64)) p.sy, .row 6 S.length, .mpv 4], .row (.pair (.list (.int .i64)) (.pair (.list (.int .i64)) .unit)) 90 S.length (List.map dp S), .vars 47 [.int .i64 p.ab, .int .i64 0, .row 8 u, .row 9 u], .row (.list (.int .i64)) 25 u N, .row (.list (.int .i64)) 25 u O, .row (.int .i64) 3 r nr, .row (.int .i64) 3 r orr, .row (.int .i64) 3 v1 (oA m p (xs.take k) a ++ oK m p (xs.getD k 0) a c), .row (.int .i64) 3 v2 (nA m p (xs.take k) a ++ nK m p (xs.getD k 0) a c)] }) ?_ ?_
   ·refine ⟨_, _, aS [0, 1, 2, 6, 7, 8, 10, 11, 12, 13, 21, 22, 23, 37, 38], 0, v1, v2, by omega, rfl, ?_⟩
    rw [ml, lR, List.append_nil, List.append_nil]; rfl
   ·rintro n15 s15 ⟨c, v1, v2, hc, rfl, rfl⟩
    refine aa fun K16 hK16 => ?_
    refine aj hP hN rfl ?_
    (refine ad rfl fun K0 Y => ?_; simp only [zE, op1, ev, lkp, ah, ag, aC, aD, aE, ao, aB, aR, reduceCtorEq, G, E, J, V, M, U, Tryd.td3, Tryd.td4, Int.toNat_natCast]; (repeat refine And.intro (by first | omega | assumption | exact rfl) ?_); refine Y _ ?_; clear Y K0; simp only [put, app, a9, af, zE, zS, E])
    refine ai ?_
    refine hK16 _ ?_; clear hK16; refine ae [0, 1, 2, 6, 7, 8, 10, 11, 12, 13, 21, 22, 23, 37, 38, 39] ?_; simp only [Z, lkp, zE, reduceCtorEq, G, a8, E]
    refine aa fun K17 hK17 => ?_
    refine aG (by simp only [ev, Z, lkp, zE, reduceCtorEq, G, a8, E]; exact rfl) (fun hc18 => ?_) (fun hc18 => ?_)
    ·(try simp only [zB, reduceCtorEq] at hc18)
     refine aJ ?_
     refine hK17 _ ?_; clear hK17; refine ae [0, 1, 2, 6, 7, 8, 10, 11, 12, 13, 21, 22, 23, 37, 38, 39] ?_; simp only [Z, lkp, zE, reduceCtorEq, G, a8, E]
     refine aa fun K19 hK19 => ?_
     refine aW ?_
     refine aa fun K20 hK20 => ?_
     refine aj hP hN rfl ?_
     iterate 2 (refine ad rfl fun K0 Y => ?_; simp only [zE, op1, ev, lkp, ah, ag, ev, reduceCtorEq, G, E, J, V, M, U, Tryd.td3, Int.toNat_natCast]; refine Y _ ?_; clear Y K0; simp only [put, app, a9, af, zE, zS, E])
     refine ai ?_
     refine hK20 _ ?_; clear hK20; refine ae [0, 1, 2, 6, 7, 8, 10, 11, 12, 13, 14, 21, 22, 23, 37, 38, 39] ?_; simp only [Z, lkp, zE, reduceCtorEq, G, a8, E]
     refine aa fun K21 hK21 => ?_
     obtain ⟨⟨hq9, hs9⟩, hm9, hn9⟩ := eE hm hp hi hxr (c := c) (by omega)
     have hor := hm.or _ c hs9 (by omega); have r1 := hp.rl _ hq9; have r2 := hp.ql _ hq9; have r3 := hm.rl _ hs9; have r4 := hm.ql _ hs9
     have hkl := gJ (m := m) (p := p) (xs.getD k 0) a c
     have ha1 : (oA m p (xs.take k) a ++ oK m p (xs.getD k 0) a c).length = (oA m p (xs.take k) a).length + (oK m p (xs.getD k 0) a c).length := List.length_append
     have ha2 : (nA m p (xs.take k) a ++ nK m p (xs.getD k 0) a c).length = (nA m p (xs.take k) a).length + (nK m p (xs.getD k 0) a c).length := List.length_append
     unfold nC at hn9
     have h8 : (p.nx.length : Int) * m.nx.length ≤ 128 * 128 := Int.mul_le_mul (by omega) (by omega) (by omega) (by omega)
     refine aj hP hN rfl ?_
     iterate 13 (refine ad rfl fun K0 Y => ?_; simp only [zE, op1, ev, lkp, ah, ag, cO, am, ay, Nat.mul_one, aw, ax, acs, Ty.dflt, zG, aq, aI, Ty.size, ne_eq, not_false_eq_true, Int.natCast_one, Int.mul_one, aC, aD, aE, ao, aB, aR, reduceCtorEq, G, E, J, V, M, U, Tryd.el22, Tryd.el25, Tryd.st24, Tryd.st85, Tryd.td1, Tryd.td103, Tryd.td22, Tryd.td24, Tryd.td25, Tryd.td3, Tryd.td4, Tryd.td85, Int.toNat_natCast]; (repeat refine And.intro (by first | omega | assumption | exact rfl) ?_); (first | refine Y _ ?_ | refine Or.inl (Y _ ?_)); clear Y K0; simp only [put, app, a9, af, zE, zS, E])
     refine ai ?_
     refine hK21 _ ?_; clear hK21; refine ae [0, 1, 2, 6, 7, 8, 10, 11, 12, 13, 14, 21, 22, 23, 37, 38, 39, 53] ?_; simp only [Z, lkp, zE, reduceCtorEq, G, a8, E]
     refine aG (by simp only [ev, Z, lkp, zE, reduceCtorEq, G, a8, E]; exact rfl) (fun hc22 => ?_) (fun hc22 => ?_)
     ·(try simp only [zB, reduceCtorEq] at hc22)
      have hy : (p.sy.getD (qxN m (xs.getD k 0)) []).getD c 0 = a := by simpa using hc22
      refine aa fun K23 hK23 => ?_
      refine aj hP hN rfl ?_
      (refine ad rfl fun K0 Y => ?_; simp only [zE, op1, ev, lkp, ah, ag, ev, reduceCtorEq, G, E, J, V, M, U, Tryd.td4, Int.toNat_natCast]; refine Y _ ?_; clear Y K0; simp only [put, app, a9, af, zE, zS, E])
      refine ai ?_
      refine hK23 _ ?_; clear hK23; refine ae [0, 1, 2, 6, 7, 8, 10, 11, 12, 13, 14, 21, 22, 23, 37, 38, 39, 53] ?_; simp only [Z, lkp, zE, reduceCtorEq, G, a8, E]
      refine aa fun K24 hK24 => ?_
      refine aj hP hN rfl ?_
      iterate 16 (refine ad rfl fun K0 Y => ?_; simp only [zE, op1, ev, lkp, ah, ag, cO, am, ay, Nat.mul_one, aw, ax, acs, Ty.dflt, zG, aq, aI, Ty.size, ne_eq, not_false_eq_true, Int.natCast_one, Int.mul_one, aC, aD, aE, ao, aB, aR, aV, b9, bJ, rep, aL, aQ, au, aF, bu, bh, ba, bb, bq, Nat.div_one, aK, bf, dite_true, reduceCtorEq, G, E, J, V, M, U, Tryd.el22, Tryd.el25, Tryd.st47, Tryd.st85, Tryd.td1, Tryd.td103, Tryd.td22, Tryd.td25, Tryd.td3, Tryd.td47, Tryd.td85, Int.toNat_natCast]; (repeat refine And.intro (by first | omega | assumption | exact rfl) ?_); (first | refine Y _ ?_ | refine Or.inl (Y _ ?_)); clear Y K0; simp only [put, app, a9, af, zE, zS, E])
      refine ai ?_
      refine hK24 _ ?_; clear hK24; refine ae [0, 1, 2, 6, 7, 8, 10, 11, 12, 13, 14, 21, 22, 23, 37, 38, 39, 53] ?_; simp only [Z, lkp, zE, reduceCtorEq, G, a8, E]
      refine bW hP hN Tryd.mixed rfl ?_
      iterate 29 (refine ad rfl fun K0 Y => ?_; simp only [zE, op1, ev, lkp, ah, ag, cO, am, ay, Nat.mul_one, aw, ax, acs, Ty.dflt, zG, aq, aI, Ty.size, ne_eq, not_false_eq_true, Int.natCast_one, Int.mul_one, aC, aD, aE, ao, aB, aR, aV, b9, bJ, rep, aL, aQ, au, aF, bu, bh, ba, bb, bq, Nat.div_one, aK, bf, dite_true, reduceCtorEq, G, E, J, V, M, U, Tryd.el22, Tryd.el25, Tryd.st24, Tryd.st47, Tryd.st85, Tryd.td1, Tryd.td103, Tryd.td2, Tryd.td22, Tryd.td24, Tryd.td25, Tryd.td3, Tryd.td47, Tryd.td85, Int.toNat_natCast]; (repeat refine And.intro (by first | omega | assumption | exact rfl) ?_); (first | refine Y _ ?_ | refine Or.inl (Y _ ?_)); clear Y K0; simp only [put, app, a9, af, zE, zS, E])
      refine ai ?_
      refine ⟨by kernel_rfl, ?_⟩
      refine hK19 _ ?_; clear hK19; refine ae [0, 1, 2, 6, 7, 8, 10, 11, 12, 13, 14, 21, 22, 23, 37, 38, 39, 53] ?_; simp only [Z, lkp, zE, reduceCtorEq, G, a8, E]
      refine aj hP hN rfl ?_
      iterate 2 (refine ad rfl fun K0 Y => ?_; simp only [zE, op1, ev, lkp, ah, ag, aC, aD, aE, ao, aB, aR, reduceCtorEq, G, E, J, V, M, U, Tryd.td3, Int.toNat_natCast]; (repeat refine And.intro (by first | omega | assumption | exact rfl) ?_); refine Y _ ?_; clear Y K0; simp only [put, app, a9, af, zE, zS, E])
      refine ai ?_
      first
      | (refine ⟨_, _, ?_, aS [0, 1, 2, 6, 7, 8, 10, 11, 12, 13, 21, 22, 23, 37, 38], c + 1, v1 + 1, v2 + 1, by omega, rfl, ?_⟩
         · omega
         · rw [li hy, jb hy, jd hy, ← List.append_assoc, ← List.append_assoc]; rfl)
      | (refine ⟨_, _, ?_, aS [0, 1, 2, 6, 7, 8, 10, 11, 12, 13, 21, 22, 23, 37, 38], c + 1, v1, v2, by omega, rfl, ?_⟩
         · omega
         · rw [jA hy, (fK hy).1, (fK hy).2]; rfl)
     ·(try simp only [zB, reduceCtorEq] at hc22)
      have hy : ¬ (p.sy.getD (qxN m (xs.getD k 0)) []).getD c 0 = a := by simpa using hc22
      refine aJ ?_
      refine hK19 _ ?_; clear hK19; refine ae [0, 1, 2, 6, 7, 8, 10, 11, 12, 13, 14, 21, 22, 23, 37, 38, 39, 53] ?_; simp only [Z, lkp, zE, reduceCtorEq, G, a8, E]
      refine aj hP hN rfl ?_
      iterate 2 (refine ad rfl fun K0 Y => ?_; simp only [zE, op1, ev, lkp, ah, ag, aC, aD, aE, ao, aB, aR, reduceCtorEq, G, E, J, V, M, U, Tryd.td3, Int.toNat_natCast]; (repeat refine And.intro (by first | omega | assumption | exact rfl) ?_); refine Y _ ?_; clear Y K0; simp only [put, app, a9, af, zE, zS, E])
      refine ai ?_
      first
      | (refine ⟨_, _, ?_, aS [0, 1, 2, 6, 7, 8, 10, 11, 12, 13, 21, 22, 23, 37, 38], c + 1, v1 + 1, v2 + 1, by omega, rfl, ?_⟩
         · omega
         · rw [li hy, jb hy, jd hy, ← List.append_assoc, ← List.append_assoc]; rfl)
      | (refine ⟨_, _, ?_, aS [0, 1, 2, 6, 7, 8, 10, 11, 12, 13, 21, 22, 23, 37, 38], c + 1, v1, v2, by omega, rfl, ?_⟩
         · omega
         · rw [jA hy, (fK hy).1, (fK hy).2]; rfl)
    ·(try simp only [zB, reduceCtorEq] at hc18)
     refine bK ?_
     refine hK13 _ ?_; clear hK13; refine ae [0, 1, 2, 6, 7, 8, 10, 11, 12, 13, 21, 22, 23, 37, 38, 39] ?_; simp only [Z, lkp, zE, reduceCtorEq, G, a8, E]
     refine aa fun K25 hK25 => ?_
     refine aj hP hN rfl ?_
     iterate 2 (refine ad rfl fun K0 Y => ?_; simp only [zE, op1, ev, lkp, ah, ag, dR, reduceCtorEq, G, E, J, V, M, U, Tryd.td4, Int.toNat_natCast]; (repeat refine And.intro (by first | omega | assumption | exact rfl) ?_); refine Y _ ?_; clear Y K0; simp only [put, app, a9, af, zE, zS, E])
     refine ai ?_
     refine hK25 _ ?_; clear hK25; refine ae [0, 1, 2, 6, 7, 8, 10, 11, 12, 13, 21, 22, 23, 37, 38, 39, 99] ?_; simp only [Z, lkp, zE, reduceCtorEq, G, a8, E]
     refine aG (by simp only [ev, Z, lkp, zE, reduceCtorEq, G, a8, E]; exact rfl) (fun hc26 => ?_) (fun hc26 => ?_)
     ·(try simp only [zB, reduceCtorEq] at hc26)
      have he : cK p (qxN m (xs.getD k 0)) a p.inp.toNat = [] := by simpa [show p.inp.toNat = c by omega] using hc26
      have ha1 : (oA m p (xs.take k) a ++ oK m p (xs.getD k 0) a c).length = (oA m p (xs.take k) a).length + (oK m p (xs.getD k 0) a c).length := List.length_append
      have hkl := gJ (m := m) (p := p) (xs.getD k 0) a c
      refine aj hP hN rfl ?_
      iterate 4 (refine ad rfl fun K0 Y => ?_; simp only [zE, op1, ev, lkp, ah, ag, aV, b9, bJ, rep, aL, aQ, au, Ty.size, aF, bu, bh, ba, bb, bq, Nat.div_one, aK, bf, dite_true, reduceCtorEq, G, E, J, V, M, U, Tryd.el25, Tryd.td1, Tryd.td25, Int.toNat_natCast]; (repeat refine And.intro (by first | omega | assumption | exact rfl) ?_); (first | refine Y _ ?_ | refine Or.inl (Y _ ?_)); clear Y K0; simp only [put, app, a9, af, zE, zS, E])
      refine ai ?_
      refine hK9 _ ?_; clear hK9; refine ae [0, 1, 2, 6, 7, 8, 10, 11, 12, 13, 21, 22, 23, 37, 38, 39, 99] ?_; simp only [Z, lkp, zE, reduceCtorEq, G, a8, E]
      refine aj hP hN rfl ?_
      iterate 2 (refine ad rfl fun K0 Y => ?_; simp only [zE, op1, ev, lkp, ah, ag, aC, aD, aE, ao, aB, aR, reduceCtorEq, G, E, J, V, M, U, Tryd.td3, Int.toNat_natCast]; (repeat refine And.intro (by first | omega | assumption | exact rfl) ?_); refine Y _ ?_; clear Y K0; simp only [put, app, a9, af, zE, zS, E])
      refine ai ?_
      first
      | (refine ⟨_, _, ?_, aS [0, 1, 2, 6, 7, 8, 21, 22, 23], k + 1, v1 + 1, v2, by omega, rfl, ?_⟩
         · omega
         · rw [nW (by omega) he, dK (by omega), show p.inp.toNat = c by omega]; rfl)
      | (refine ⟨_, _, ?_, aS [0, 1, 2, 6, 7, 8, 21, 22, 23], k + 1, v1, v2, by omega, rfl, ?_⟩
         · omega
         · rw [nE (by omega) he, dK (by omega), show p.inp.toNat = c by omega]; rfl)
     ·(try simp only [zB, reduceCtorEq] at hc26)
      have he : ¬ cK p (qxN m (xs.getD k 0)) a p.inp.toNat = [] := by simpa [show p.inp.toNat = c by omega] using hc26
      refine aJ ?_
      refine hK9 _ ?_; clear hK9; refine ae [0, 1, 2, 6, 7, 8, 10, 11, 12, 13, 21, 22, 23, 37, 38, 39, 99] ?_; simp only [Z, lkp, zE, reduceCtorEq, G, a8, E]
      refine aj hP hN rfl ?_
      iterate 2 (refine ad rfl fun K0 Y => ?_; simp only [zE, op1, ev, lkp, ah, ag, aC, aD, aE, ao, aB, aR, reduceCtorEq, G, E, J, V, M, U, Tryd.td3, Int.toNat_natCast]; (repeat refine And.intro (by first | omega | assumption | exact rfl) ?_); refine Y _ ?_; clear Y K0; simp only [put, app, a9, af, zE, zS, E])
      refine ai ?_
      first
      | (refine ⟨_, _, ?_, aS [0, 1, 2, 6, 7, 8, 21, 22, 23], k + 1, v1 + 1, v2, by omega, rfl, ?_⟩
         · omega
         · rw [nW (by omega) he, dK (by omega), show p.inp.toNat = c by omega]; rfl)
      | (refine ⟨_, _, ?_, aS [0, 1, 2, 6, 7, 8, 21, 22, 23], k + 1, v1, v2, by omega, rfl, ?_⟩
         · omega
         · rw [nE (by omega) he, dK (by omega), show p.inp.toNat = c by omega]; rfl)
  ·(try simp only [zB, reduceCtorEq] at hc8)
   refine bK ?_
   refine hK3 _ ?_; clear hK3; refine ae [0, 1, 2, 6, 7, 8, 21, 22, 23, 24] ?_; simp only [Z, lkp, zE, reduceCtorEq, G, a8, E]
   refine aa fun K27 hK27 => ?_
   refine aa fun K28 hK28 => ?_
   have hkw : k = xs.length := by omega
   rw [hkw, List.take_length]
   have hol := l7 (m := m) (p := p) hp.i2 xs a; have hop := nZ (m := m) hp.i2 hx0 a
   refine aj hP hN rfl ?_
   iterate 3 (refine ad rfl fun K0 Y => ?_; simp only [zE, op1, ev, lkp, ah, ag, aF, bu, bh, ba, bb, bq, Nat.div_one, aK, bf, Ty.size, aL, dite_true, aC, aD, aE, ao, aB, aR, reduceCtorEq, G, E, J, V, M, U, Tryd.el25, Tryd.td25, Tryd.td3, Tryd.td4, Int.toNat_natCast]; (repeat refine And.intro (by first | omega | assumption | exact rfl) ?_); (first | refine Y _ ?_ | refine Or.inl (Y _ ?_)); clear Y K0; simp only [put, app, a9, af, zE, zS, E])
   refine ai ?_
   refine hK28 _ ?_; clear hK28; refine ae [0, 1, 2, 6, 7, 8, 21, 22, 23, 24, 106] ?_; simp only [Z, lkp, zE, reduceCtorEq, G, a8, E]
   refine aG (by simp only [ev, Z, lkp, zE, reduceCtorEq, G, a8, E]; exact rfl) (fun hc29 => ?_) (fun hc29 => ?_)
   ·(try simp only [zB, reduceCtorEq] at hc29)
    have hNa := rO (m := m) (p := p) (xs := xs) (a := a) (by omega)
    refine aj hP hN rfl ?_
    (refine ad rfl fun K0 Y => ?_; simp only [zE, op1, ev, lkp, ah, ag, ev, reduceCtorEq, G, E, J, V, M, U, Tryd.el25, Tryd.td25, Int.toNat_natCast]; refine Y _ ?_; clear Y K0; simp only [put, app, a9, af, zE, zS, E])
    refine ad rfl fun K0 Y => ?_
    refine bc (h := jC (od xs (by omega) (by omega))) rfl rfl (by first | exact rfl | (simp only [ev, Z, lkp, zE, reduceCtorEq, G, a8, E]; exact rfl)) (by simp only [zE, zG, op1, ev, lkp, ah, ag, au, acs, br, mv1, mvC, Ty.dflt, reduceCtorEq, G, E, J, V, M, U, Int.toNat_natCast]) ?_
    refine Y _ ?_; clear Y K0; simp only [put, app, a9, af, zE, zS, E]
    (refine ad rfl fun K0 Y => ?_; simp only [zE, op1, ev, lkp, ah, ag, ev, reduceCtorEq, G, E, J, V, M, U, Tryd.el25, Tryd.td25, Int.toNat_natCast]; refine Y _ ?_; clear Y K0; simp only [put, app, a9, af, zE, zS, E])
    refine ai ?_
    refine hK27 _ ?_; clear hK27; refine ae [0, 1, 2, 6, 7, 8, 21, 22, 23, 24, 106] ?_; simp only [Z, lkp, zE, reduceCtorEq, G, a8, E]
    refine aa fun K30 hK30 => ?_
    refine aj hP hN rfl ?_
    (refine ad rfl fun K0 Y => ?_; simp only [zE, op1, ev, lkp, ah, ag, ev, reduceCtorEq, G, E, J, V, M, U, Tryd.el25, Tryd.td25, Int.toNat_natCast]; refine Y _ ?_; clear Y K0; simp only [put, app, a9, af, zE, zS, E])
    refine ad rfl fun K0 Y => ?_
    refine bc (h := f8 (k := 12) (ver := v1) (xs := oA m p xs a) gV rfl (by omega) (by omega)) rfl rfl (by first | exact rfl | (simp only [ev, Z, lkp, zE, reduceCtorEq, G, a8, E]; exact rfl)) (by simp only [zE, zG, op1, ev, lkp, ah, ag, au, acs, br, mv1, mvC, Ty.dflt, reduceCtorEq, G, E, J, V, M, U, Int.toNat_natCast]) ?_
    refine Y _ ?_; clear Y K0; simp only [put, app, a9, af, zE, zS, E]
    refine ai ?_
    refine hK30 _ ?_; clear hK30; refine ae [0, 1, 2, 6, 7, 8, 21, 22, 23, 24, 106] ?_; simp only [Z, lkp, zE, reduceCtorEq, G, a8, E]
    refine aa fun K31 hK31 => ?_
    refine aj hP hN rfl ?_
    (refine ad rfl fun K0 Y => ?_; simp only [zE, op1, ev, lkp, ah, ag, ev, reduceCtorEq, G, E, J, V, M, U, Tryd.el25, Tryd.td25, Int.toNat_natCast]; refine Y _ ?_; clear Y K0; simp only [put, app, a9, af, zE, zS, E])
    refine ad rfl fun K0 Y => ?_
    refine bc (h := f8 (k := 14) (ver := 0) (xs := xs) gV rfl (by omega) (by omega)) rfl rfl (by first | exact rfl | (simp only [ev, Z, lkp, zE, reduceCtorEq, G, a8, E]; exact rfl)) (by simp only [zE, zG, op1, ev, lkp, ah, ag, au, acs, br, mv1, mvC, Ty.dflt, reduceCtorEq, G, E, J, V, M, U, Int.toNat_natCast]) ?_
    refine Y _ ?_; clear Y K0; simp only [put, app, a9, af, zE, zS, E]
    refine ai ?_
    refine hK31 _ ?_; clear hK31; refine ae [0, 1, 2, 6, 7, 8, 21, 22, 23, 24, 106] ?_; simp only [Z, lkp, zE, reduceCtorEq, G, a8, E]
    refine aa fun K32 hK32 => ?_
    refine aj hP hN rfl ?_
    (refine ad rfl fun K0 Y => ?_; simp only [zE, op1, ev, lkp, ah, ag, ev, reduceCtorEq, G, E, J, V, M, U, Tryd.el25, Tryd.td25, Int.toNat_natCast]; refine Y _ ?_; clear Y K0; simp only [put, app, a9, af, zE, zS, E])
    refine ad rfl fun K0 Y => ?_
    refine bc (h := dG (k := 12) (ver := v1) (xs := dh (oA m p xs a)) eF rfl (by rw [cW]; omega) (by rw [cW]; omega) dn) rfl rfl (by first | exact rfl | (simp only [ev, Z, lkp, zE, reduceCtorEq, G, a8, E]; exact rfl)) (by simp only [zE, zG, op1, ev, lkp, ah, ag, au, acs, br, mv1, mvC, Ty.dflt, reduceCtorEq, G, E, J, V, M, U, Int.toNat_natCast]) ?_
    refine Y _ ?_; clear Y K0; simp only [put, app, a9, af, zE, zS, E]
    (refine ad rfl fun K0 Y => ?_; simp only [zE, op1, ev, lkp, ah, ag, ev, reduceCtorEq, G, E, J, V, M, U, Tryd.el25, Tryd.td25, Int.toNat_natCast]; refine Y _ ?_; clear Y K0; simp only [put, app, a9, af, zE, zS, E])
    refine ad rfl fun K0 Y => ?_
    refine bc (h := dG (k := 14) (ver := 0) (xs := dh xs) eF rfl (by rw [cW]; omega) (by rw [cW]; omega) dn) rfl rfl (by first | exact rfl | (simp only [ev, Z, lkp, zE, reduceCtorEq, G, a8, E]; exact rfl)) (by simp only [zE, zG, op1, ev, lkp, ah, ag, au, acs, br, mv1, mvC, Ty.dflt, reduceCtorEq, G, E, J, V, M, U, Int.toNat_natCast]) ?_
    refine Y _ ?_; clear Y K0; simp only [put, app, a9, af, zE, zS, E]
    iterate 2 (refine ad rfl fun K0 Y => ?_; simp only [zE, op1, ev, lkp, ah, ag, ev, reduceCtorEq, G, E, J, V, M, U, Tryd.el25, Tryd.td25, Int.toNat_natCast]; refine Y _ ?_; clear Y K0; simp only [put, app, a9, af, zE, zS, E])
    refine ai ?_
    refine hK32 _ ?_; clear hK32; refine ae [0, 1, 2, 6, 7, 8, 21, 22, 23, 24, 106] ?_; simp only [Z, lkp, zE, reduceCtorEq, G, a8, E]
    refine ck 12 rfl ?_; simp only [List.map_cons, List.map_nil, zS, G, and_self, and_true, true_and, and_false, false_and, if_true, if_false, eq_self, reduceCtorEq, Nat.one_ne_zero, Nat.zero_ne_one]
    refine ck 13 rfl ?_; simp only [List.map_cons, List.map_nil, zS, G, and_self, and_true, true_and, and_false, false_and, if_true, if_false, eq_self, reduceCtorEq, Nat.one_ne_zero, Nat.zero_ne_one]
    first
    | (refine ck 14 rfl ?_; simp only [List.map_cons, List.map_nil, zS, G, and_self, and_true, true_and, and_false, false_and, if_true, if_false, eq_self, reduceCtorEq, Nat.one_ne_zero, Nat.zero_ne_one]; refine cv (n := 14) (L1 := [_, _, _, _, _, _, _, _, _, _, _, _, _, _]) rfl rfl (by rw [hB]; decide) rfl rfl ?_)
    | skip
    refine cv (n := 13) (L1 := [_, _, _, _, _, _, _, _, _, _, _, _, _]) rfl rfl (by rw [hB]; decide) rfl rfl ?_
    refine cv (n := 12) (L1 := [_, _, _, _, _, _, _, _, _, _, _, _]) rfl rfl (by rw [hB]; decide) rfl rfl ?_
    refine aP ?_
    refine ⟨by first | exact .inl rfl | exact .inr rfl, _, rfl, ?_⟩; simp only [Z, lkp, zE, reduceCtorEq, G, a8, E, Int.toNat_natCast]
    rw [hNa]
    first | exact ⟨rfl, rfl⟩ | exact ⟨rfl, trivial⟩ | rfl
   ·(try simp only [zB, reduceCtorEq] at hc29)
    have hNa := rH (m := m) (p := p) (xs := xs) (a := a) (by omega)
    refine aJ ?_
    refine hK27 _ ?_; clear hK27; refine ae [0, 1, 2, 6, 7, 8, 21, 22, 23, 24, 106] ?_; simp only [Z, lkp, zE, reduceCtorEq, G, a8, E]
    refine aa fun K33 hK33 => ?_
    refine aj hP hN rfl ?_
    (refine ad rfl fun K0 Y => ?_; simp only [zE, op1, ev, lkp, ah, ag, ev, reduceCtorEq, G, E, J, V, M, U, Tryd.el25, Tryd.td25, Int.toNat_natCast]; refine Y _ ?_; clear Y K0; simp only [put, app, a9, af, zE, zS, E])
    refine ad rfl fun K0 Y => ?_
    refine bc (h := f8 (k := 12) (ver := v1) (xs := oA m p xs a) gV rfl (by omega) (by omega)) rfl rfl (by first | exact rfl | (simp only [ev, Z, lkp, zE, reduceCtorEq, G, a8, E]; exact rfl)) (by simp only [zE, zG, op1, ev, lkp, ah, ag, au, acs, br, mv1, mvC, Ty.dflt, reduceCtorEq, G, E, J, V, M, U, Int.toNat_natCast]) ?_
    refine Y _ ?_; clear Y K0; simp only [put, app, a9, af, zE, zS, E]
    refine ai ?_
    refine hK33 _ ?_; clear hK33; refine ae [0, 1, 2, 6, 7, 8, 21, 22, 23, 24, 106] ?_; simp only [Z, lkp, zE, reduceCtorEq, G, a8, E]
    refine aa fun K34 hK34 => ?_
    refine aj hP hN rfl ?_
    (refine ad rfl fun K0 Y => ?_; simp only [zE, op1, ev, lkp, ah, ag, ev, reduceCtorEq, G, E, J, V, M, U, Tryd.el25, Tryd.td25, Int.toNat_natCast]; refine Y _ ?_; clear Y K0; simp only [put, app, a9, af, zE, zS, E])
    refine ad rfl fun K0 Y => ?_
    refine bc (h := f8 (k := 13) (ver := v2) (xs := nA m p xs a) gV rfl (by omega) (by omega)) rfl rfl (by first | exact rfl | (simp only [ev, Z, lkp, zE, reduceCtorEq, G, a8, E]; exact rfl)) (by simp only [zE, zG, op1, ev, lkp, ah, ag, au, acs, br, mv1, mvC, Ty.dflt, reduceCtorEq, G, E, J, V, M, U, Int.toNat_natCast]) ?_
    refine Y _ ?_; clear Y K0; simp only [put, app, a9, af, zE, zS, E]
    refine ai ?_
    refine hK34 _ ?_; clear hK34; refine ae [0, 1, 2, 6, 7, 8, 21, 22, 23, 24, 106] ?_; simp only [Z, lkp, zE, reduceCtorEq, G, a8, E]
    refine aa fun K35 hK35 => ?_
    refine aj hP hN rfl ?_
    (refine ad rfl fun K0 Y => ?_; simp only [zE, op1, ev, lkp, ah, ag, ev, reduceCtorEq, G, E, J, V, M, U, Tryd.el25, Tryd.td25, Int.toNat_natCast]; refine Y _ ?_; clear Y K0; simp only [put, app, a9, af, zE, zS, E])
    refine ad rfl fun K0 Y => ?_
    refine bc (h := dG (k := 12) (ver := v1) (xs := dh (oA m p xs a)) eF rfl (by rw [cW]; omega) (by rw [cW]; omega) dn) rfl rfl (by first | exact rfl | (simp only [ev, Z, lkp, zE, reduceCtorEq, G, a8, E]; exact rfl)) (by simp only [zE, zG, op1, ev, lkp, ah, ag, au, acs, br, mv1, mvC, Ty.dflt, reduceCtorEq, G, E, J, V, M, U, Int.toNat_natCast]) ?_
    refine Y _ ?_; clear Y K0; simp only [put, app, a9, af, zE, zS, E]
    (refine ad rfl fun K0 Y => ?_; simp only [zE, op1, ev, lkp, ah, ag, ev, reduceCtorEq, G, E, J, V, M, U, Tryd.el25, Tryd.td25, Int.toNat_natCast]; refine Y _ ?_; clear Y K0; simp only [put, app, a9, af, zE, zS, E])
    refine ad rfl fun K0 Y => ?_
    refine bc (h := dG (k := 13) (ver := v2) (xs := dh (nA m p xs a)) eF rfl (by rw [cW]; omega) (by rw [cW]; omega) dn) rfl rfl (by first | exact rfl | (simp only [ev, Z, lkp, zE, reduceCtorEq, G, a8, E]; exact rfl)) (by simp only [zE, zG, op1, ev, lkp, ah, ag, au, acs, br, mv1, mvC, Ty.dflt, reduceCtorEq, G, E, J, V, M, U, Int.toNat_natCast]) ?_
    refine Y _ ?_; clear Y K0; simp only [put, app, a9, af, zE, zS, E]
    iterate 2 (refine ad rfl fun K0 Y => ?_; simp only [zE, op1, ev, lkp, ah, ag, ev, reduceCtorEq, G, E, J, V, M, U, Tryd.el25, Tryd.td25, Int.toNat_natCast]; refine Y _ ?_; clear Y K0; simp only [put, app, a9, af, zE, zS, E])
    refine ai ?_
    refine hK35 _ ?_; clear hK35; refine ae [0, 1, 2, 6, 7, 8, 21, 22, 23, 24, 106] ?_; simp only [Z, lkp, zE, reduceCtorEq, G, a8, E]
    refine ck 12 rfl ?_; simp only [List.map_cons, List.map_nil, zS, G, and_self, and_true, true_and, and_false, false_and, if_true, if_false, eq_self, reduceCtorEq, Nat.one_ne_zero, Nat.zero_ne_one]
    refine ck 13 rfl ?_; simp only [List.map_cons, List.map_nil, zS, G, and_self, and_true, true_and, and_false, false_and, if_true, if_false, eq_self, reduceCtorEq, Nat.one_ne_zero, Nat.zero_ne_one]
    first
    | (refine ck 14 rfl ?_; simp only [List.map_cons, List.map_nil, zS, G, and_self, and_true, true_and, and_false, false_and, if_true, if_false, eq_self, reduceCtorEq, Nat.one_ne_zero, Nat.zero_ne_one]; refine cv (n := 14) (L1 := [_, _, _, _, _, _, _, _, _, _, _, _, _, _]) rfl rfl (by rw [hB]; decide) rfl rfl ?_)
    | skip
    refine cv (n := 13) (L1 := [_, _, _, _, _, _, _, _, _, _, _, _, _]) rfl rfl (by rw [hB]; decide) rfl rfl ?_
    refine cv (n := 12) (L1 := [_, _, _, _, _, _, _, _, _, _, _, _]) rfl rfl (by rw [hB]; decide) rfl rfl ?_
    refine aP ?_
    refine ⟨by first | exact .inl rfl | exact .inr rfl, _, rfl, ?_⟩; simp only [Z, lkp, zE, reduceCtorEq, G, a8, E, Int.toNat_natCast]
    rw [hNa]
    first | exact ⟨rfl, rfl⟩ | exact ⟨rfl, trivial⟩ | rfl
end Go.Proofs.YtgmgnkmgofkfpaaDoor
namespace Go.AV
open Nat renaming reduceEqDiff → G, reduceAdd → E, reduceLeDiff → J, reduceLT → V, reduceMul → M, reduceSub → U
open List renaming set_cons_zero → aA, set_cons_succ → az
/-plain-/
/-! ### canonical machines: numbered in the order of their access words, and no two states equivalent -/
def rgI (n : Nat) : List Int := (List.range n).map fun (i : Nat) => (i : Int)
structure CAN (x : Mly) : Prop where
  ok : MOK x
  st : x.st = 0
  rc : x.reach = rgI x.nx.length
  ds : ∀ i j : Int, 0 ≤ i → i < x.nx.length → 0 ≤ j → j < x.nx.length → EQV x i j → i = j
/-- Both machines have met the same states, and these are equivalent one by one. -/
structure LCK (x y : Mly) (l : List Int) : Prop where
  eq : ∀ j, j ∈ l → EQ2 x y j j
  bx : ∀ j, j ∈ l → 0 ≤ j ∧ j < x.nx.length
  by_ : ∀ j, j ∈ l → 0 ≤ j ∧ j < y.nx.length
end Go.AV
namespace Go.AV
open Nat renaming reduceEqDiff → G, reduceAdd → E, reduceLeDiff → J, reduceLT → V, reduceMul → M, reduceSub → U
open List renaming set_cons_zero → aA, set_cons_succ → az
/-plain-/
/-! The machine of the reachable pairs. -/
abbrev PP := Int × Int
abbrev SYS := PP → Nat → PP × Int
def d0 : PP := (0, 0)
def bL (F : SYS) (p : PP) (l : List PP) (x : Nat) : List PP := (List.range x).foldl (fun l y => eG l (F p y).1) l
def bN (F : SYS) (p : PP) (l : List PP) (x : Nat) : List Int := (List.range x).map fun y => (pos (bL F p l y) (F p y).1 : Int)
def bO (F : SYS) (p : PP) (x : Nat) : List Int := (List.range x).map fun y => (F p y).2
def bX (F : SYS) (p : PP) (l : List PP) (y : Nat) : Bool := decide (128 < (bL F p l (y + 1)).length) || decide (1048576 < (F p y).2)
abbrev BST := List PP × (List (List Int) × List (List Int))
def bA (F : SYS) (n i : Nat) (s : BST) : BST := (bL F (s.1.getD i d0) s.1 n, s.2.1 ++ [bN F (s.1.getD i d0) s.1 n], s.2.2 ++ [bO F (s.1.getD i d0) n])
def bF (F : SYS) (n : Nat) : Nat → Nat → BST → Option BST
  | 0, _, _ => none
  | f + 1, i, s => if i < s.1.length then if (List.range n).any (bX F (s.1.getD i d0) s.1) = true then none else bF F n f (i + 1) (bA F n i s) else some s
def bR (F : SYS) (n : Nat) (p0 : PP) : Option BST := bF F n 130 0 ([p0], [], [])
theorem fy (F : SYS) (p : PP) (l : List PP) (x : Nat) : bL F p l (x + 1) = eG (bL F p l x) (F p x).1 := by
  unfold bL; rw [List.range_succ, List.foldl_append]; rfl
theorem kB {α : Type} [DecidableEq α] (l : List α) (x : α) : ∃ k, eG l x = l ++ k := mR [x] l
theorem gR (F : SYS) (p : PP) (l : List PP) : ∀ x, ∃ k, bL F p l x = l ++ k
  | 0 => ⟨[], by simp [bL]⟩
  | x + 1 => by
    obtain ⟨k, e⟩ := gR F p l x
    obtain ⟨k', e'⟩ := kB (bL F p l x) (F p x).1
    exact ⟨k ++ k', by rw [fy, e', e, List.append_assoc]⟩
theorem jm (F : SYS) (p : PP) (l : List PP) (x : Nat) : ∀ d, ∃ k, bL F p l (x + d) = bL F p l x ++ k
  | 0 => ⟨[], by simp⟩
  | d + 1 => by
    obtain ⟨k, e⟩ := jm F p l x d
    obtain ⟨k', e'⟩ := kB (bL F p l (x + d)) (F p (x + d)).1
    exact ⟨k ++ k', by rw [← Nat.add_assoc, fy, e', e, List.append_assoc]⟩
theorem pC (F : SYS) (p : PP) (l : List PP) (x : Nat) : l.length ≤ (bL F p l x).length := by
  obtain ⟨k, e⟩ := gR F p l x
  rw [e, List.length_append]; omega
theorem jW (F : SYS) (p : PP) {l : List PP} (x : Nat) {i : Nat} (h : i < l.length) : (bL F p l x).getD i d0 = l.getD i d0 := by
  obtain ⟨k, e⟩ := gR F p l x
  rw [e]; simp [List.getD, List.getElem?_append_left h]
theorem pM (F : SYS) (p : PP) (l : List PP) {x y : Nat} (h : y < x) : (F p y).1 ∈ bL F p l x := by
  obtain ⟨k, e⟩ := jm F p l (y + 1) (x - (y + 1))
  rw [show x = y + 1 + (x - (y + 1)) by omega, e, List.mem_append, fy, oW]
  exact .inl (.inr rfl)
theorem kM (F : SYS) (p : PP) {l : List PP} (h : l.Nodup) : ∀ x, (bL F p l x).Nodup
  | 0 => by simpa [bL] using h
  | x + 1 => by rw [fy]; exact mH (kM F p h x) _
theorem pZ {α : Type} [DecidableEq α] (l : List α) (x : α) : pos (eG l x) x = pos l x := by
  by_cases h : x ∈ l
  · rw [jz h]
  · rw [iF h, oS h, mA h]
theorem qB (F : SYS) (p : PP) (l : List PP) {x y : Nat} (h : y < x) : pos (bL F p l x) (F p y).1 = pos (bL F p l y) (F p y).1 := by
  obtain ⟨k, e⟩ := jm F p l (y + 1) (x - (y + 1))
  rw [show x = y + 1 + (x - (y + 1)) by omega, e, fR _ (pM F p l (Nat.lt_succ_self y)), fy, pZ]
structure BOK (F : SYS) (n : Nat) (p0 : PP) (i : Nat) (s : BST) : Prop where
  nd : s.1.Nodup
  le : s.1.length ≤ 128
  nl : s.2.1.length = i
  ol : s.2.2.length = i
  il : i ≤ s.1.length
  hd : s.1.getD 0 d0 = p0
  h0 : 0 < s.1.length
  nx : ∀ j, j < i → s.2.1.getD j [] = (List.range n).map fun x => (pos s.1 (F (s.1.getD j d0) x).1 : Int)
  ot : ∀ j, j < i → s.2.2.getD j [] = (List.range n).map fun x => (F (s.1.getD j d0) x).2
  cl : ∀ j x, j < i → x < n → (F (s.1.getD j d0) x).1 ∈ s.1
  bd : ∀ j x, j < i → x < n → (F (s.1.getD j d0) x).2 ≤ 1048576
theorem gi {α : Type} {l : List α} {y d : α} {i : Nat} (h : i < l.length) : (l ++ [y]).getD i d = l.getD i d := by simp [List.getD, List.getElem?_append_left h]
theorem gl {α : Type} {l : List α} {y d : α} {i : Nat} (h : i = l.length) : (l ++ [y]).getD i d = y := by subst h; simp [List.getD]
theorem qo {F : SYS} {p : PP} {l : List PP} {n : Nat} (h : (List.range n).any (bX F p l) = false) {y : Nat} (hy : y < n) : (bL F p l (y + 1)).length ≤ 128 ∧ (F p y).2 ≤ 1048576 := by
  rw [List.any_eq_false] at h
  have := h y (by simpa using hy)
  simp only [bX, Bool.not_eq_true, Bool.or_eq_false_iff, decide_eq_false_iff_not] at this
  omega
theorem rD {F : SYS} {p : PP} {l : List PP} {n : Nat} (hl : l.length ≤ 128) (h : (List.range n).any (bX F p l) = false) : (bL F p l n).length ≤ 128 := by
  cases n with
  | zero => simpa [bL] using hl
  | succ n => exact (qo h (Nat.lt_succ_self n)).1
theorem BOK.step {F : SYS} {n : Nat} {p0 : PP} {i : Nat} {s : BST} (h : BOK F n p0 i s) (hi : i < s.1.length) (hb : (List.range n).any (bX F (s.1.getD i d0) s.1) = false) : BOK F n p0 (i + 1) (bA F n i s) where
  nd := kM F _ h.nd n
  le := rD h.le hb
  nl := by simp [bA, h.nl]
  ol := by simp [bA, h.ol]
  il := Nat.le_trans hi (pC F _ s.1 n)
  hd := by simp only [bA]; rw [jW F _ n h.h0]; exact h.hd
  h0 := Nat.lt_of_lt_of_le h.h0 (pC F _ s.1 n)
  nx := fun j hj => by
    simp only [bA]
    rw [jW F _ n (show j < s.1.length by omega)]
    by_cases e : j = i
    · rw [gl (by rw [h.nl, e]), e]
      exact List.map_congr_left fun x hx => by rw [qB F _ s.1 (List.mem_range.1 hx)]
    · have hji : j < i := by omega
      rw [gi (by rw [h.nl]; exact hji), h.nx j hji]
      refine List.map_congr_left fun x hx => ?_
      obtain ⟨k, ek⟩ := gR F (s.1.getD i d0) s.1 n
      rw [ek, fR _ (h.cl j x hji (List.mem_range.1 hx))]
  ot := fun j hj => by
    simp only [bA]
    rw [jW F _ n (show j < s.1.length by omega)]
    by_cases e : j = i
    · rw [gl (by rw [h.ol, e]), e]; rfl
    · rw [gi (by rw [h.ol]; omega), h.ot j (by omega)]
  cl := fun j x hj hx => by
    simp only [bA]
    rw [jW F _ n (show j < s.1.length by omega)]
    by_cases e : j = i
    · rw [e]; exact pM F _ s.1 hx
    · obtain ⟨k, ek⟩ := gR F (s.1.getD i d0) s.1 n
      rw [ek, List.mem_append]
      exact .inl (h.cl j x (by omega) hx)
  bd := fun j x hj hx => by
    simp only [bA]
    rw [jW F _ n (show j < s.1.length by omega)]
    by_cases e : j = i
    · rw [e]; exact (qo hb hx).2
    · exact h.bd j x (by omega) hx
/-! Runs. -/
section
variable {F : SYS} {n : Nat} {p0 : PP} {s : BST} (h : bR F n p0 = some s)
include h
end
/-! For the walks. -/
end Go.AV
namespace Go.AV
open Nat renaming reduceEqDiff → G, reduceAdd → E, reduceLeDiff → J, reduceLT → V, reduceMul → M, reduceSub → U
open List renaming set_cons_zero → aA, set_cons_succ → az
/-plain-/
/-! Breadth-first search through pairs, with words. -/
abbrev STP := PP → Nat → PP
abbrev W3 := PP × List Int
def w30 : W3 := (d0, [])
def dIn (l : List W3) (q : PP) : Bool := l.any fun f => decide (f.1 = q)
def dSt (A : STP) (e : W3) (l : List W3) (x : Nat) : List W3 := if dIn l (A e.1 x) = true then l else l ++ [(A e.1 x, e.2 ++ [(x : Int)])]
def gY (A : STP) (e : W3) (l : List W3) (x : Nat) : List W3 := (List.range x).foldl (dSt A e) l
theorem m7 {l : List W3} {q : PP} : dIn l q = true ↔ q ∈ l.map Prod.fst := by
  unfold dIn
  rw [List.any_eq_true, List.mem_map]
  constructor
  · rintro ⟨e, he, h⟩; exact ⟨e, he, by simpa using h⟩
  · rintro ⟨e, he, h⟩; exact ⟨e, he, by simpa using h⟩
theorem qN {A : STP} {e : W3} {l : List W3} {x : Nat} (h : A e.1 x ∈ l.map Prod.fst) : dSt A e l x = l := if_pos (m7.2 h)
theorem qp {A : STP} {e : W3} {l : List W3} {x : Nat} (h : A e.1 x ∉ l.map Prod.fst) : dSt A e l x = l ++ [(A e.1 x, e.2 ++ [(x : Int)])] := if_neg fun k => h (m7.1 k)
theorem jQ (A : STP) (e : W3) (l : List W3) (x : Nat) : gY A e l (x + 1) = dSt A e (gY A e l x) x := by
  unfold gY; rw [List.range_succ, List.foldl_append]; rfl
theorem pQ (A : STP) (e : W3) (l : List W3) (x : Nat) : ∃ k, dSt A e l x = l ++ k := by
  unfold dSt; split
  · exact ⟨[], by simp⟩
  · exact ⟨_, rfl⟩
theorem jH (A : STP) (e : W3) (l : List W3) (x : Nat) : ∀ d, ∃ k, gY A e l (x + d) = gY A e l x ++ k
  | 0 => ⟨[], by simp⟩
  | d + 1 => by
    obtain ⟨k, h⟩ := jH A e l x d
    obtain ⟨k', h'⟩ := pQ A e (gY A e l (x + d)) (x + d)
    exact ⟨k ++ k', by rw [← Nat.add_assoc, jQ, h', h, List.append_assoc]⟩
theorem oa (A : STP) (e : W3) (l : List W3) (x : Nat) : ∃ k, gY A e l x = l ++ k := by
  obtain ⟨k, h⟩ := jH A e l 0 x
  rw [Nat.zero_add] at h
  exact ⟨k, h⟩
def inR (n1 n2 : Nat) (q : PP) : Prop := (0 ≤ q.1 ∧ q.1 < n1) ∧ 0 ≤ q.2 ∧ q.2 < n2
structure DW (n1 n2 : Nat) (l : List W3) : Prop where
  nd : (l.map Prod.fst).Nodup
  rg : ∀ e, e ∈ l → inR n1 n2 e.1
  wl : ∀ e, e ∈ l → e.2.length < l.length
theorem rh {l : List W3} {i : Nat} (h : i < l.length) : l.getD i w30 ∈ l := by simp [List.getD, h]
theorem DW.le {n1 n2 : Nat} {l : List W3} (h : DW n1 n2 l) : l.length ≤ n1 * n2 := by
  have hnd : ((l.map Prod.fst).map fun q : PP => q.1 * (n2 : Int) + q.2).Nodup := by
    rw [List.nodup_iff_pairwise_ne, List.pairwise_map]
    refine List.Pairwise.imp_of_mem (fun {a b} ha hb hab => ?_) (List.nodup_iff_pairwise_ne.1 h.nd)
    intro e
    obtain ⟨ea, hea, rfl⟩ := List.mem_map.1 ha
    obtain ⟨eb, heb, rfl⟩ := List.mem_map.1 hb
    have := kZ (h.rg ea hea).2 (h.rg eb heb).2 e
    exact hab (Prod.ext this.1 this.2)
  have := f0 (n1 * n2) _ hnd (fun x hx => by
    obtain ⟨q, hq, rfl⟩ := List.mem_map.1 hx
    obtain ⟨e, he, rfl⟩ := List.mem_map.1 hq
    have hr := h.rg e he
    have := md hr.1 hr.2
    rw [Int.natCast_mul]; exact this)
  simpa using this
theorem DW.step {n1 n2 n : Nat} {A : STP} (hA : ∀ q, inR n1 n2 q → ∀ x, x < n → inR n1 n2 (A q x)) {l : List W3} (h : DW n1 n2 l) {e : W3} (he : e ∈ l) {x : Nat} (hx : x < n) : DW n1 n2 (dSt A e l x) := by
  by_cases hin : A e.1 x ∈ l.map Prod.fst
  · rw [qN hin]; exact h
  · rw [qp hin]
    refine ⟨?_, fun f hf => ?_, fun f hf => ?_⟩
    · rw [List.map_append, List.map_cons, List.map_nil, List.nodup_append]
      refine ⟨h.nd, by simp, fun a ha b hb => ?_⟩
      simp at hb; subst hb
      intro hab; subst hab; exact hin ha
    · rcases List.mem_append.1 hf with hf | hf
      · exact h.rg f hf
      · simp at hf; subst hf; exact hA _ (h.rg e he) x hx
    · rw [List.length_append, List.length_singleton]
      rcases List.mem_append.1 hf with hf | hf
      · have := h.wl f hf; omega
      · simp at hf; subst hf
        have := h.wl e he
        simp only [List.length_append, List.length_singleton]; omega
theorem DW.row {n1 n2 n : Nat} {A : STP} (hA : ∀ q, inR n1 n2 q → ∀ x, x < n → inR n1 n2 (A q x)) {l : List W3} (h : DW n1 n2 l) {i : Nat} (hi : i < l.length) : ∀ x, x ≤ n → DW n1 n2 (gY A (l.getD i w30) l x)
  | 0, _ => by simpa [gY] using h
  | x + 1, hx => by
    rw [jQ]
    refine (h.row hA hi x (by omega)).step hA ?_ (by omega)
    obtain ⟨k, e⟩ := oa A (l.getD i w30) l x
    rw [e]; exact List.mem_append.2 (.inl (rh hi))
/-! The search for a pair. -/
/-! The numbers of pairs. -/
end Go.AV
namespace Go.AV
open Nat renaming reduceEqDiff → G, reduceAdd → E, reduceLeDiff → J, reduceLT → V, reduceMul → M, reduceSub → U
open List renaming set_cons_zero → aA, set_cons_succ → az
/-plain-/
end Go.AV
namespace Go.AV
open Nat renaming reduceEqDiff → G, reduceAdd → E, reduceLeDiff → J, reduceLT → V, reduceMul → M, reduceSub → U
open List renaming set_cons_zero → aA, set_cons_succ → az
/-plain-/
end Go.AV
namespace Go.AV
open Nat renaming reduceEqDiff → G, reduceAdd → E, reduceLeDiff → J, reduceLT → V, reduceMul → M, reduceSub → U
open List renaming set_cons_zero → aA, set_cons_succ → az
/-plain-/
end Go.AV
namespace Go.AV
open Nat renaming reduceEqDiff → G, reduceAdd → E, reduceLeDiff → J, reduceLT → V, reduceMul → M, reduceSub → U
open List renaming set_cons_zero → aA, set_cons_succ → az
/-plain-/
/-! The search through classes. -/
def hF (h : PP → PP) (l : List W3) : List PP := l.map fun e => h e.1
structure HOM (A B : STP) (n : Nat) (I : PP → Prop) (h : PP → PP) : Prop where
  cl : ∀ p, I p → ∀ x, x < n → I (A p x)
  eq : ∀ p, I p → ∀ x, x < n → B (h p) x = h (A p x)
end Go.AV
namespace Go.Proofs.YtgmgnkmgofkfpaaDoor
open Go Go.AV
open Nat renaming reduceEqDiff → G, reduceAdd → E, reduceLeDiff → J, reduceLT → V, reduceMul → M, reduceSub → U
open List renaming set_cons_zero → aA, set_cons_succ → az
set_option maxRecDepth 100000 in
theorem eT (e : Int) : ch Tryd.prog 41 [.one (.int .i64 e)] (.tup [.agg [.int .i64 0, .int .i64 0, .nils, .nils], .agg [.nils, .int .i64 0, .int .i64 0], .one (.bool false), .one (.int .i64 e)]) := by
 refine bp Tryd.func41 rfl (by kernel_rfl) (Nat.le_of_ble_eq_true rfl) rfl fun C hP hN hB => ?_
 replace hN : C.N = 9 := hN
 simp only [a8, E]
 refine aa fun K1 hK1 => ?_
 refine aj hP hN rfl ?_
 iterate 4 (refine ad rfl fun K0 Y => ?_; simp only [zE, op1, ev, lkp, ah, ag, co, reduceCtorEq, G, E, J, V, M, U, Tryd.st47, Tryd.st50, Tryd.td26, Tryd.td4, Tryd.td47, Tryd.td50]; (repeat refine And.intro (by first | omega | assumption | exact rfl) ?_); (first | refine Y _ ?_ | refine Or.inl (Y _ ?_)); clear Y K0; simp only [put, app, a9, af, zE, zS, E])
 refine ai ?_
 refine hK1 _ ?_; clear hK1; refine ae [0, 2, 3, 4, 5] ?_; simp only [Z, lkp, zE, reduceCtorEq, G, a8, E]
 refine aa fun K2 hK2 => ?_
 refine aj hP hN rfl ?_
 iterate 7 (refine ad rfl fun K0 Y => ?_; simp only [zE, op1, ev, lkp, ah, ag, c9, b9, aQ, au, bI, Nat.mul_one, aL, acs, Ty.size, Ty.dflt, zG, reduceCtorEq, G, E, J, V, M, U, Tryd.st47, Tryd.st50, Tryd.td26, Tryd.td4, Tryd.td47, Tryd.td50]; (repeat refine And.intro (by first | omega | assumption | exact rfl) ?_); (first | refine Y _ ?_ | refine Or.inl (Y _ ?_)); clear Y K0; simp only [put, app, a9, af, zE, zS, E])
 refine ai ?_
 refine hK2 _ ?_; clear hK2; refine ae [0, 2, 3, 4, 5] ?_; simp only [Z, lkp, zE, reduceCtorEq, G, a8, E]
 refine aP ?_
 refine ⟨by first | exact .inl rfl | exact .inr rfl, _, rfl, ?_⟩; simp only [fzV, fz1, fzC, List.map_cons, List.map_nil, Z, lkp, zE, reduceCtorEq, G, a8, E]
 refine VLE.of_eq ?_
 rfl
end Go.Proofs.YtgmgnkmgofkfpaaDoor
namespace Go.AV
open Nat renaming reduceEqDiff → G, reduceAdd → E, reduceLeDiff → J, reduceLT → V, reduceMul → M, reduceSub → U
open List renaming set_cons_zero → aA, set_cons_succ → az
/-plain-/
theorem ji (w : List Int) (x : Int) : [w, [x]].flatten.length = w.length + 1 := by simp
end Go.AV
namespace Go.Proofs.YtgmgnkmgofkfpaaDoor
open Go Go.AV
open Nat renaming reduceEqDiff → G, reduceAdd → E, reduceLeDiff → J, reduceLT → V, reduceMul → M, reduceSub → U
open List renaming set_cons_zero → aA, set_cons_succ → az
set_option maxRecDepth 100000 in
theorem qC  : ch Tryd.prog 93 [.one (.int .i64 36)] (.one (.bool false)) := by
 refine bp Tryd.func93 rfl (by kernel_rfl) (Nat.le_of_ble_eq_true rfl) rfl fun C hP hN hB => ?_
 replace hN : C.N = 8 := hN
 simp only [a8, E]
 refine aa fun K1 hK1 => ?_
 refine aj hP hN rfl ?_
 (refine ad rfl fun K0 Y => ?_; simp only [zE, op1, ev, lkp, ah, ag, ev, reduceCtorEq, G, E, J, V, M, U, Tryd.td4]; refine Y _ ?_; clear Y K0; simp only [put, app, a9, af, zE, zS, E])
 refine ai ?_
 refine hK1 _ ?_; clear hK1; refine ae [0, 2] ?_; simp only [Z, lkp, zE, reduceCtorEq, G, a8, E]
 refine aa fun K2 hK2 => ?_
 refine aj hP hN rfl ?_
 iterate 6 (refine ad rfl fun K0 Y => ?_; simp only [zE, op1, ev, lkp, ah, ag, aC, aD, aE, ao, aB, aR, reduceCtorEq, G, E, J, V, M, U, Tryd.td3, Tryd.td4]; (repeat refine And.intro (by first | omega | assumption | exact rfl) ?_); refine Y _ ?_; clear Y K0; simp only [put, app, a9, af, zE, zS, E])
 refine ai ?_
 refine hK2 _ ?_; clear hK2; refine ae [0, 2] ?_; simp only [Z, lkp, zE, reduceCtorEq, G, a8, E]
 refine aP ?_
 refine ⟨by first | exact .inl rfl | exact .inr rfl, _, rfl, ?_⟩; simp only [fzV, fz1, fzC, List.map_cons, List.map_nil, Z, lkp, zE, reduceCtorEq, G, a8, E]
 refine VLE.of_eq ?_
 refine congrArg (fun b => AV.one (AC.bool b)) ?_
 decide
end Go.Proofs.YtgmgnkmgofkfpaaDoor
namespace Go.Proofs.YtgmgnkmgofkfpaaDoor
open Go Go.AV
open Nat renaming reduceEqDiff → G, reduceAdd → E, reduceLeDiff → J, reduceLT → V, reduceMul → M, reduceSub → U
open List renaming set_cons_zero → aA, set_cons_succ → az
set_option maxRecDepth 100000 in
set_option maxHeartbeats 1000000 in
theorem qj (n v : Nat) (xs : List Int) (hn : n < 1679616) (hx : xs.length ≤ 1000000000) : dc Tryd.prog [.row (.int .u8) 5 v xs] 89 [.one (.row 0 v), .one (.int .u64 (n : Int)), .one (.int .i64 36), .one (.bool false), .one (.bool true)] { av := .tup [.one (.row 0 (v + 1)), .one (.str [])], upd := [(0, .row (.int .u8) 5 (v + 1) (xs ++ d36 n))], new := [.dead 0], fp := [0] } := by
 refine d7 _ _ Tryd.func89 rfl (by kernel_rfl) (Nat.le_of_ble_eq_true rfl) (by intro k hk; simp only [List.length_cons, List.length_nil, Nat.zero_add, E] at hk; simp only [List.mem_cons, List.not_mem_nil, or_false]; omega) (fun C hP hN hB => ?_)
 replace hB : C.bL.length = 1 := by rw [hB]; rfl
 replace hN : C.N = 102 := hN
 simp only [a8, E]
 refine aa fun K1 hK1 => ?_
 refine aj hP hN rfl ?_
 iterate 2 (refine ad rfl fun K0 Y => ?_; simp only [zE, op1, ev, lkp, ah, ag, ev, reduceCtorEq, G, E, J, V, M, U, Tryd.el110, Tryd.td110, Tryd.td9, bS, c0, c8]; refine Y _ ?_; clear Y K0; simp only [put, app, a9, af, zE, zS, E])
 refine ai ?_
 refine hK1 _ ?_; clear hK1; refine ae [0, 1, 2, 3, 4, 10, 11] ?_; simp only [Z, lkp, zE, reduceCtorEq, G, a8, E]
 refine aa fun K2 hK2 => ?_
 refine aa fun K3 hK3 => ?_
 refine aj hP hN rfl ?_
 iterate 2 (refine ad rfl fun K0 Y => ?_; simp only [zE, op1, ev, lkp, ah, ag, aC, aD, aE, ao, aB, aR, reduceCtorEq, G, E, J, V, M, U, Tryd.td3, Tryd.td4, bS, c0, c8]; (repeat refine And.intro (by first | omega | assumption | exact rfl) ?_); refine Y _ ?_; clear Y K0; simp only [put, app, a9, af, zE, zS, E])
 (refine ad rfl fun K0 Y => ?_; simp only [zE, op1, ev, lkp, ah, ag, ev, reduceCtorEq, G, E, J, V, M, U, Tryd.td4, bS, c0, c8]; refine Y _ ?_; clear Y K0; simp only [put, app, a9, af, zE, zS, E])
 refine' aY (want := false) 2 rfl (m := 21) (by simp only [Z, lkp, zE, reduceCtorEq, G, a8, E]; exact rfl) (by kernel_rfl) rfl rfl rfl rfl rfl (fun hg4 => ?a4) ?b4 ?c4
 case a4 =>
  have hq4 := hg4; (try simp only [zB, reduceCtorEq] at hg4); simp only [List.take_succ_cons, List.take_zero, List.cons_append, List.nil_append]
  (refine ar rfl fun K0 Y => ?_; simp only [zE, op1, ev, lkp, ah, ag, ev, reduceCtorEq, G, E, J, V, M, U, Tryd.td3, bS, c0, c8]; refine Y _ ?_; clear Y K0; simp only [put, app, a9, af, zE, zS, E])
  (refine ar rfl fun K0 Y => ?_; simp only [zE, op1, ev, lkp, ah, ag, aC, aD, aE, ao, aB, aR, reduceCtorEq, G, E, J, V, M, U, Tryd.td3, Tryd.td4, bS, c0, c8]; (repeat refine And.intro (by first | omega | assumption | exact rfl) ?_); refine Y _ ?_; clear Y K0; simp only [put, app, a9, af, zE, zS, E])
  (refine ad rfl fun K0 Y => ?_; simp only [zE, op1, ev, lkp, ah, ag, bt, reduceCtorEq, G, E, J, V, M, U, Tryd.td4, bS, c0, c8]; refine Y _ ?_; clear Y K0; simp only [put, app, a9, af, zE, zS, E])
  refine ai ?_
  refine ⟨by simp only [Z, lkp, zE, reduceCtorEq, G, a8, E]; exact rfl, rfl, ?_, rfl⟩; (repeat refine aZ rfl ?_); exact bz (by exact rfl) hq4
 case b4 => exact bv (by first | rfl | (simp [bV]; done) | decide)
 simp only [bj, bg]
 (refine ad rfl fun K0 Y => ?_; simp only [zE, op1, ev, lkp, ah, ag, ev, reduceCtorEq, G, E, J, V, M, U, Tryd.td4, bS, c0, c8]; refine Y _ ?_; clear Y K0; simp only [put, app, a9, af, zE, zS, E])
 refine' aY (want := false) 2 rfl (m := 25) (by simp only [Z, lkp, zE, reduceCtorEq, G, a8, E]; exact rfl) (by kernel_rfl) rfl rfl rfl rfl rfl (fun hg5 => ?a5) ?b5 ?c5
 case a5 =>
  have hq5 := hg5; (try simp only [zB, reduceCtorEq] at hg5); simp only [List.take_succ_cons, List.take_zero, List.cons_append, List.nil_append]
  (refine ar rfl fun K0 Y => ?_; simp only [zE, op1, ev, lkp, ah, ag, ev, reduceCtorEq, G, E, J, V, M, U, Tryd.td3, bS, c0, c8]; refine Y _ ?_; clear Y K0; simp only [put, app, a9, af, zE, zS, E])
  (refine ar rfl fun K0 Y => ?_; simp only [zE, op1, ev, lkp, ah, ag, aC, aD, aE, ao, aB, aR, reduceCtorEq, G, E, J, V, M, U, Tryd.td3, Tryd.td4, bS, c0, c8]; (repeat refine And.intro (by first | omega | assumption | exact rfl) ?_); refine Y _ ?_; clear Y K0; simp only [put, app, a9, af, zE, zS, E])
  (refine ad rfl fun K0 Y => ?_; simp only [zE, op1, ev, lkp, ah, ag, bt, reduceCtorEq, G, E, J, V, M, U, Tryd.td4, bS, c0, c8]; refine Y _ ?_; clear Y K0; simp only [put, app, a9, af, zE, zS, E])
  refine ai ?_
  refine ⟨by simp only [Z, lkp, zE, reduceCtorEq, G, a8, E]; exact rfl, rfl, ?_, rfl⟩; (repeat refine aZ rfl ?_); exact bz (by exact rfl) hq5
 case b5 => exact bv (by first | rfl | (simp [bV]; done) | decide)
 simp only [bj, bg]
 refine ai ?_
 refine hK3 _ ?_; clear hK3; refine ae [0, 1, 2, 3, 4, 10, 11, 28] ?_; simp only [Z, lkp, zE, reduceCtorEq, G, a8, E]
 refine aG (by simp only [ev, Z, lkp, zE, reduceCtorEq, G, a8, E]; exact rfl) (fun hc6 => ?_) (fun hc6 => ?_)
 · exfalso; (try simp only [zB, reduceCtorEq] at hc6); all_goals (first | (cases hc6; done) | omega | (simp at hc6; done) | (simp_all; done))
 ·(try simp only [zB, reduceCtorEq] at hc6)
  refine aJ ?_
  refine hK2 _ ?_; clear hK2; refine ae [0, 1, 2, 3, 4, 10, 11, 28] ?_; simp only [Z, lkp, zE, reduceCtorEq, G, a8, E]
  refine aa fun K7 hK7 => ?_
  refine aj hP hN rfl ?_
  (refine ad rfl fun K0 Y => ?_; simp only [zE, op1, ev, lkp, ah, ag, co, reduceCtorEq, G, E, J, V, M, U, Tryd.ea143, Tryd.sa143, Tryd.td143, bS, c0, c8]; (repeat refine And.intro (by first | omega | assumption | exact rfl) ?_); (first | refine Y _ ?_ | refine Or.inl (Y _ ?_)); clear Y K0; simp only [put, app, a9, af, zE, zS, E])
  refine ai ?_
  refine hK7 _ ?_; clear hK7; refine ae [0, 1, 2, 3, 4, 10, 11, 12, 28] ?_; simp only [Z, lkp, zE, reduceCtorEq, G, a8, E]
  refine aa fun K8 hK8 => ?_
  refine aj hP hN rfl ?_
  (refine ad rfl fun K0 Y => ?_; simp only [zE, op1, ev, lkp, ah, ag, ev, reduceCtorEq, G, E, J, V, M, U, Tryd.td3, bS, c0, c8]; refine Y _ ?_; clear Y K0; simp only [put, app, a9, af, zE, zS, E])
  refine ai ?_
  refine hK8 _ ?_; clear hK8; refine ae [0, 1, 2, 3, 4, 10, 11, 12, 13, 28] ?_; simp only [Z, lkp, zE, reduceCtorEq, G, a8, E]
  refine aa fun K9 hK9 => ?_
  refine aa fun K10 hK10 => ?_
  refine aj hP hN rfl ?_
  (refine ad rfl fun K0 Y => ?_; simp only [zE, op1, ev, lkp, ah, ag, ev, reduceCtorEq, G, E, J, V, M, U, Tryd.td4, bS, c0, c8]; refine Y _ ?_; clear Y K0; simp only [put, app, a9, af, zE, zS, E])
  refine ai ?_
  refine hK10 _ ?_; clear hK10; refine ae [0, 1, 2, 3, 4, 10, 11, 12, 13, 28, 30] ?_; simp only [Z, lkp, zE, reduceCtorEq, G, a8, E]
  refine aG (by simp only [ev, Z, lkp, zE, reduceCtorEq, G, a8, E]; exact rfl) (fun hc11 => ?_) (fun hc11 => ?_)
  · exfalso; (try simp only [zB, reduceCtorEq] at hc11); all_goals (first | (cases hc11; done) | omega | (simp at hc11; done) | (simp_all; done))
  ·(try simp only [zB, reduceCtorEq] at hc11)
   refine aJ ?_
   refine hK9 _ ?_; clear hK9; refine ae [0, 1, 2, 3, 4, 10, 11, 12, 13, 28, 30] ?_; simp only [Z, lkp, zE, reduceCtorEq, G, a8, E]
   refine aa fun K12 hK12 => ?_
   refine aa fun K13 hK13 => ?_
   refine aj hP hN rfl ?_
   (refine ad rfl fun K0 Y => ?_; simp only [zE, op1, ev, lkp, ah, ag, ev, reduceCtorEq, G, E, J, V, M, U, Tryd.td3, bS, c0, c8]; refine Y _ ?_; clear Y K0; simp only [put, app, a9, af, zE, zS, E])
   refine ad rfl fun K0 Y => ?_
   refine bc (h := aU qC) rfl rfl (by first | exact rfl | (simp only [ev, Z, lkp, zE, reduceCtorEq, G, a8, E]; exact rfl)) (by simp only [zE, zG, op1, ev, lkp, ah, ag, au, acs, br, mv1, mvC, Ty.dflt, reduceCtorEq, G, E, J, V, M, U, bS, c0, c8]) ?_
   refine Y _ ?_; clear Y K0; simp only [put, app, a9, af, zE, zS, E]
   refine ai ?_
   refine hK13 _ ?_; clear hK13; refine ae [0, 1, 2, 3, 4, 10, 11, 12, 13, 28, 30, 34] ?_; simp only [Z, lkp, zE, reduceCtorEq, G, a8, E]
   refine aG (by simp only [ev, Z, lkp, zE, reduceCtorEq, G, a8, E]; exact rfl) (fun hc14 => ?_) (fun hc14 => ?_)
   · exfalso; (try simp only [zB, reduceCtorEq] at hc14); all_goals (first | (cases hc14; done) | omega | (simp at hc14; done) | (simp_all; done))
   ·(try simp only [zB, reduceCtorEq] at hc14)
    refine aa fun K15 hK15 => ?_
    refine aj hP hN rfl ?_
    iterate 3 (refine ad rfl fun K0 Y => ?_; simp only [zE, op1, ev, lkp, ah, ag, ew, reduceCtorEq, G, E, J, V, M, U, Tryd.td126, Tryd.td3, bS, c0, c8]; (repeat refine And.intro (by first | omega | assumption | exact rfl) ?_); refine Y _ ?_; clear Y K0; simp only [put, app, a9, af, zE, zS, E])
    refine ai ?_
    refine hK15 _ ?_; clear hK15; refine ae [0, 1, 2, 3, 4, 10, 11, 12, 13, 17, 28, 30, 34] ?_; simp only [Z, lkp, zE, reduceCtorEq, G, a8, E]
    refine aa fun K16 hK16 => ?_
    refine aW ?_
    refine bM (fun n17 s17 => ∃ (u : Nat) (j : Nat) (l : List Int), (BUF n u j l) ∧ n17 = u + 1 ∧ s17 = { env := [(0, .one (.row 0 v)), (1, .one (.int .u64 (u : Int))), (3, .one (.bool false)), (4, .one (.bool true)), (10, .one .nils), (11, .one (.str [])), (12, .one (.ptr 1 0 0 0)), (13, .one (.int .i64 (65 - (j : Int)))), (17, .one (.int .u64 36))], L := [.row (.int .u8) 5 v xs, .vars 143 (bcl l)] }) ?_ ?_
    ·exact ⟨_, _, aS [0, 1, 3, 4, 10, 11, 12, 13, 17], n, 0, List.replicate 65 0, ru hn, rfl, rfl⟩
    ·rintro n17 s17 ⟨u, j, l, hbf, rfl, rfl⟩
     refine aa fun K18 hK18 => ?_
     refine aa fun K19 hK19 => ?_
     refine aj hP hN rfl ?_
     iterate 3 (refine ad rfl fun K0 Y => ?_; simp only [zE, op1, ev, lkp, ah, ag, aC, aD, aE, ao, aB, aR, reduceCtorEq, G, E, J, V, M, U, Tryd.td126, Tryd.td4, bS, c0, c8]; (repeat refine And.intro (by first | omega | assumption | exact rfl) ?_); refine Y _ ?_; clear Y K0; simp only [put, app, a9, af, zE, zS, E])
     refine ai ?_
     refine hK19 _ ?_; clear hK19; refine ae [0, 1, 3, 4, 10, 11, 12, 13, 17, 68] ?_; simp only [Z, lkp, zE, reduceCtorEq, G, a8, E]
     refine aG (by simp only [ev, Z, lkp, zE, reduceCtorEq, G, a8, E]; exact rfl) (fun hc20 => ?_) (fun hc20 => ?_)
     ·(try simp only [zB, reduceCtorEq] at hc20)
      refine aJ ?_
      refine hK18 _ ?_; clear hK18; refine ae [0, 1, 3, 4, 10, 11, 12, 13, 17, 68] ?_; simp only [Z, lkp, zE, reduceCtorEq, G, a8, E]
      refine aW ?_
      refine aa fun K21 hK21 => ?_
      have hbu := lu hbf.b; have hbl := hbf.len; have hu36 : 36 ≤ u := by omega
      have hq1 : (u : Int).tdiv 36 = ((u / 36 : Nat) : Int) := by rw [Int.tdiv_eq_ediv_of_nonneg (by omega)]; omega
      refine aj hP hN rfl ?_
      iterate 3 (refine ad rfl fun K0 Y => ?_; simp only [zE, op1, ev, lkp, ah, ag, aC, aD, aE, ao, aB, aR, reduceCtorEq, G, E, J, V, M, U, Tryd.td3, bS, c0, c8]; (repeat refine And.intro (by first | omega | assumption | exact rfl) ?_); refine Y _ ?_; clear Y K0; simp only [put, app, a9, af, zE, zS, E])
      refine ai ?_
      refine hK21 _ ?_; clear hK21; refine ae [0, 1, 3, 4, 10, 11, 12, 13, 17, 68] ?_; simp only [Z, lkp, zE, reduceCtorEq, G, a8, E]
      refine aa fun K22 hK22 => ?_
      refine aj hP hN rfl ?_
      iterate 4 (refine ad rfl fun K0 Y => ?_; simp only [zE, op1, ev, lkp, ah, ag, aC, aD, aE, ao, aB, aR, reduceCtorEq, G, E, J, V, M, U, Tryd.td126, bS, c0, c8, hq1]; (repeat refine And.intro (by first | omega | assumption | exact rfl) ?_); refine Y _ ?_; clear Y K0; simp only [put, app, a9, af, zE, zS, E])
      refine ai ?_
      refine hK22 _ ?_; clear hK22; refine ae [0, 1, 3, 4, 10, 11, 12, 13, 17, 18, 68] ?_; simp only [Z, lkp, zE, reduceCtorEq, G, a8, E]
      refine aa fun K23 hK23 => ?_
      have hix : ((65 : Int) - (j : Int) - 1).toNat = 64 - j := by omega
      have hsb : (u : Int) - ((u / 36 : Nat) : Int) * 36 = ((u % 36 : Nat) : Int) := by omega
      have hw : ∀ c, aQ (bcl l) (64 - j) [.int .u8 c] = bcl (l.set (64 - j) c) := fun c => jh (by omega) c
      refine aj hP hN rfl ?_
      iterate 9 (refine ad rfl fun K0 Y => ?_; simp only [zE, op1, ev, lkp, ah, ag, aC, aD, aE, ao, aB, aR, hG, aw, ax, acs, aI, zG, Ty.dflt, Ty.size, Nat.mul_one, ne_eq, not_false_eq_true, Int.natCast_one, Int.mul_one, bI, au, aL, reduceCtorEq, G, E, J, V, M, U, Tryd.ea143, Tryd.sa143, Tryd.td126, Tryd.td143, Tryd.td3, Tryd.td5, Tryd.td9, bS, c0, c8, hix, hsb, hw, Int.toNat_natCast]; (repeat refine And.intro (by first | omega | assumption | exact rfl) ?_); refine Y _ ?_; clear Y K0; simp only [put, app, a9, af, zE, zS, E])
      refine ai ?_
      refine hK23 _ ?_; clear hK23; refine ae [0, 1, 3, 4, 10, 11, 12, 13, 17, 18, 68] ?_; simp only [Z, lkp, zE, reduceCtorEq, G, a8, E]
      refine aj hP hN rfl ?_
      iterate 2 (refine ad rfl fun K0 Y => ?_; simp only [zE, op1, ev, lkp, ah, ag, ev, reduceCtorEq, G, E, J, V, M, U, Tryd.td126, bS, c0, c8]; refine Y _ ?_; clear Y K0; simp only [put, app, a9, af, zE, zS, E])
      refine ai ?_
      refine ⟨_, _, ?_, aS [0, 1, 3, 4, 10, 11, 12, 13, 17], u / 36, j + 1, l.set (64 - j) (c36 (u % 36)), oB hbf hu36, rfl, ?_⟩
      · omega
      · rw [show (65 : Int) - (j : Int) - 1 = 65 - ((j + 1 : Nat) : Int) by omega]; rfl
     ·(try simp only [zB, reduceCtorEq] at hc20)
      refine bK ?_
      refine hK16 _ ?_; clear hK16; refine ae [0, 1, 3, 4, 10, 11, 12, 13, 17, 68] ?_; simp only [Z, lkp, zE, reduceCtorEq, G, a8, E]
      refine aa fun K24 hK24 => ?_
      have hbu := lu hbf.b; have hbl := hbf.len
      refine aj hP hN rfl ?_
      iterate 3 (refine ad rfl fun K0 Y => ?_; simp only [zE, op1, ev, lkp, ah, ag, aC, aD, aE, ao, aB, aR, reduceCtorEq, G, E, J, V, M, U, Tryd.td3, bS, c0, c8]; (repeat refine And.intro (by first | omega | assumption | exact rfl) ?_); refine Y _ ?_; clear Y K0; simp only [put, app, a9, af, zE, zS, E])
      refine ai ?_
      refine hK24 _ ?_; clear hK24; refine ae [0, 1, 3, 4, 10, 11, 12, 13, 17, 68] ?_; simp only [Z, lkp, zE, reduceCtorEq, G, a8, E]
      have hix : ((65 : Int) - (j : Int) - 1).toNat = 64 - j := by omega
      have hw : ∀ c, aQ (bcl l) (64 - j) [.int .u8 c] = bcl (l.set (64 - j) c) := fun c => jh (by omega) c
      refine aj hP hN rfl ?_
      iterate 5 (refine ad rfl fun K0 Y => ?_; simp only [zE, op1, ev, lkp, ah, ag, hG, aw, ax, acs, aI, zG, Ty.dflt, Ty.size, Nat.mul_one, ne_eq, not_false_eq_true, Int.natCast_one, Int.mul_one, bI, au, aL, reduceCtorEq, G, E, J, V, M, U, Tryd.ea143, Tryd.sa143, Tryd.td126, Tryd.td143, Tryd.td3, Tryd.td5, Tryd.td9, bS, c0, c8, hix, hw, Int.toNat_natCast]; (repeat refine And.intro (by first | omega | assumption | exact rfl) ?_); refine Y _ ?_; clear Y K0; simp only [put, app, a9, af, zE, zS, E])
      refine ai ?_
      refine hK12 _ ?_; clear hK12; refine ae [0, 1, 3, 4, 10, 11, 12, 13, 17, 68] ?_; simp only [Z, lkp, zE, reduceCtorEq, G, a8, E]
      refine aa fun K25 hK25 => ?_
      refine aa fun K26 hK26 => ?_
      refine aj hP hN rfl ?_
      (refine ad rfl fun K0 Y => ?_; simp only [zE, op1, ev, lkp, ah, ag, ev, reduceCtorEq, G, E, J, V, M, U, Tryd.td4, bS, c0, c8]; refine Y _ ?_; clear Y K0; simp only [put, app, a9, af, zE, zS, E])
      refine ai ?_
      refine hK26 _ ?_; clear hK26; refine ae [0, 1, 3, 4, 10, 11, 12, 13, 17, 68, 89] ?_; simp only [Z, lkp, zE, reduceCtorEq, G, a8, E]
      refine aG (by simp only [ev, Z, lkp, zE, reduceCtorEq, G, a8, E]; exact rfl) (fun hc27 => ?_) (fun hc27 => ?_)
      · exfalso; (try simp only [zB, reduceCtorEq] at hc27); all_goals (first | (cases hc27; done) | omega | (simp at hc27; done) | (simp_all; done))
      ·(try simp only [zB, reduceCtorEq] at hc27)
       refine aJ ?_
       refine hK25 _ ?_; clear hK25; refine ae [0, 1, 3, 4, 10, 11, 12, 13, 17, 68, 89] ?_; simp only [Z, lkp, zE, reduceCtorEq, G, a8, E]
       refine aa fun K28 hK28 => ?_
       refine aa fun K29 hK29 => ?_
       refine aj hP hN rfl ?_
       (refine ad rfl fun K0 Y => ?_; simp only [zE, op1, ev, lkp, ah, ag, ev, reduceCtorEq, G, E, J, V, M, U, Tryd.td4, bS, c0, c8]; refine Y _ ?_; clear Y K0; simp only [put, app, a9, af, zE, zS, E])
       refine ai ?_
       refine hK29 _ ?_; clear hK29; refine ae [0, 1, 3, 4, 10, 11, 12, 13, 17, 68, 89, 94] ?_; simp only [Z, lkp, zE, reduceCtorEq, G, a8, E]
       refine aG (by simp only [ev, Z, lkp, zE, reduceCtorEq, G, a8, E]; exact rfl) (fun hc30 => ?_) (fun hc30 => ?_)
       ·(try simp only [zB, reduceCtorEq] at hc30)
        refine aa fun K31 hK31 => ?_
        refine jT 1 (fI .u8 (l.set (64 - j) (c36 u)).length) rfl (show aL (fI .u8 (l.set (64 - j) (c36 u)).length) (bcl (l.set (64 - j) (c36 u))) = some (jr .u8 (l.set (64 - j) (c36 u))) from jf _) ?_; simp only [List.map_cons, List.map_nil, shV, if_true, zS, if_false, eq_self, G, reduceCtorEq, Nat.one_ne_zero, Nat.zero_ne_one]
        have hix : ((65 : Int) - (j : Int) - 1).toNat = 64 - j := by omega
        have hl65 : (l.set (64 - j) (c36 u)).length = 65 := by simpa using hbl
        have htk : List.drop (64 - j) (List.take (l.set (64 - j) (c36 u)).length (l.set (64 - j) (c36 u))) = d36 n := by rw [List.take_length]; exact (oL hbf (by omega)).symm
        have hdl := ke (n := n)
        refine aj hP hN rfl ?_
        iterate 2 (refine ad rfl fun K0 Y => ?_; simp only [zE, op1, ev, lkp, ah, ag, ev, reduceCtorEq, G, E, J, V, M, U, Tryd.el110, Tryd.td110, Tryd.td3, bS, c0, c8, hix, htk]; refine Y _ ?_; clear Y K0; simp only [put, app, a9, af, zE, zS, E, hix, htk])
        (refine ad rfl fun K0 Y => ?_; simp only [zE, op1, ev, lkp, ah, ag, fL, bnd, Ty.size, reduceCtorEq, G, E, J, V, M, U, Tryd.ea143, Tryd.el110, Tryd.sa143, Tryd.td110, Tryd.td143, bS, c0, c8, hix, htk]; refine ⟨.u8, l.set (64 - j) (c36 u), 5, _, _, _, rfl, by rw [hl65], Tryd.td5, rfl, rfl, rfl, by omega, Y _ ?_⟩; clear Y K0; simp only [put, app, a9, af, zE, zS, E, hix, htk])
        iterate 2 (refine ad rfl fun K0 Y => ?_; simp only [zE, op1, ev, lkp, ah, ag, aF, bu, bh, ba, bb, bq, Nat.div_one, aK, bf, Ty.size, aL, dite_true, reduceCtorEq, G, E, J, V, M, U, Tryd.el110, Tryd.td110, bS, c0, c8, hix, htk]; (repeat refine And.intro (by first | omega | assumption | exact rfl) ?_); (first | refine Y _ ?_ | refine Or.inl (Y _ ?_)); clear Y K0; simp only [put, app, a9, af, zE, zS, E, hix, htk])
        refine ai ?_
        refine hK31 _ ?_; clear hK31; refine ae [0, 1, 3, 4, 10, 11, 12, 13, 17, 68, 89, 94] ?_; simp only [Z, lkp, zE, reduceCtorEq, G, a8, E]
        refine aP ?_
        refine ⟨by first | exact .inl rfl | exact .inr rfl, _, rfl, ?_⟩; simp only [Z, lkp, zE, reduceCtorEq, G, a8, E, bS, c0, c8]
        first | exact ⟨rfl, rfl⟩ | rfl
       · exfalso; (try simp only [zB, reduceCtorEq] at hc30); all_goals (first | (cases hc30; done) | omega | (simp at hc30; done) | (simp_all; done))
end Go.Proofs.YtgmgnkmgofkfpaaDoor
namespace Go.Proofs.YtgmgnkmgofkfpaaDoor
open Go Go.AV
open Nat renaming reduceEqDiff → G, reduceAdd → E, reduceLeDiff → J, reduceLT → V, reduceMul → M, reduceSub → U
open List renaming set_cons_zero → aA, set_cons_succ → az
set_option maxRecDepth 100000 in
theorem pc (n v : Nat) (xs : List Int) (hn : n < 1679616) (hx : xs.length ≤ 1000000000) : dc Tryd.prog [.row (.int .u8) 5 v xs] 79 [.one (.row 0 v), .one (.int .u64 (n : Int)), .one (.int .i64 36)] { av := .one (.row 0 (v + 1)), upd := [(0, .row (.int .u8) 5 (v + 1) (xs ++ d36 n))], new := [.dead 0], fp := [0] } := by
 refine d7 _ _ Tryd.func79 rfl (by kernel_rfl) (Nat.le_of_ble_eq_true rfl) (by intro k hk; simp only [List.length_cons, List.length_nil, Nat.zero_add, E] at hk; simp only [List.mem_cons, List.not_mem_nil, or_false]; omega) (fun C hP hN hB => ?_)
 replace hB : C.bL.length = 1 := by rw [hB]; rfl
 replace hN : C.N = 36 := hN
 simp only [a8, E]
 refine aa fun K1 hK1 => ?_
 refine aj hP hN rfl ?_
 (refine ad rfl fun K0 Y => ?_; simp only [zE, op1, ev, lkp, ah, ag, ev, reduceCtorEq, G, E, J, V, M, U, Tryd.el110, Tryd.td110]; refine Y _ ?_; clear Y K0; simp only [put, app, a9, af, zE, zS, E])
 refine ai ?_
 refine hK1 _ ?_; clear hK1; refine ae [0, 1, 2, 6] ?_; simp only [Z, lkp, zE, reduceCtorEq, G, a8, E]
 refine aa fun K2 hK2 => ?_
 refine aa fun K3 hK3 => ?_
 refine aj hP hN rfl ?_
 iterate 2 (refine ad rfl fun K0 Y => ?_; simp only [zE, op1, ev, lkp, ah, ag, aC, aD, aE, ao, aB, aR, reduceCtorEq, G, E, J, V, M, U, Tryd.td3, Tryd.td4]; (repeat refine And.intro (by first | omega | assumption | exact rfl) ?_); refine Y _ ?_; clear Y K0; simp only [put, app, a9, af, zE, zS, E])
 refine ai ?_
 refine hK3 _ ?_; clear hK3; refine ae [0, 1, 2, 6, 10] ?_; simp only [Z, lkp, zE, reduceCtorEq, G, a8, E]
 refine aG (by simp only [ev, Z, lkp, zE, reduceCtorEq, G, a8, E]; exact rfl) (fun hc4 => ?_) (fun hc4 => ?_)
 · exfalso; (try simp only [zB, reduceCtorEq] at hc4); all_goals (first | (cases hc4; done) | omega | (simp at hc4; done) | (simp_all; done))
 ·(try simp only [zB, reduceCtorEq] at hc4)
  refine aJ ?_
  refine hK2 _ ?_; clear hK2; refine ae [0, 1, 2, 6, 10] ?_; simp only [Z, lkp, zE, reduceCtorEq, G, a8, E]
  refine aa fun K5 hK5 => ?_
  refine aj hP hN rfl ?_
  iterate 3 (refine ad rfl fun K0 Y => ?_; simp only [zE, op1, ev, lkp, ah, ag, ev, reduceCtorEq, G, E, J, V, M, U, Tryd.el110, Tryd.td110, Tryd.td126, Tryd.td3]; refine Y _ ?_; clear Y K0; simp only [put, app, a9, af, zE, zS, E])
  refine ad rfl fun K0 Y => ?_
  refine bc (h := qj n v xs hn hx) rfl rfl (by first | exact rfl | (simp only [ev, Z, lkp, zE, reduceCtorEq, G, a8, E]; exact rfl)) (by simp only [zE, zG, op1, ev, lkp, ah, ag, au, acs, br, mv1, mvC, Ty.dflt, reduceCtorEq, G, E, J, V, M, U]) ?_
  refine Y _ ?_; clear Y K0; simp only [put, app, a9, af, zE, zS, E]
  iterate 4 (refine ad rfl fun K0 Y => ?_; simp only [zE, op1, ev, lkp, ah, ag, bZ, reduceCtorEq, G, E, J, V, M, U, Tryd.el110, Tryd.td1, Tryd.td110, Tryd.td9]; refine Y _ ?_; clear Y K0; simp only [put, app, a9, af, zE, zS, E])
  refine ai ?_
  refine hK5 _ ?_; clear hK5; refine ae [0, 1, 2, 6, 10] ?_; simp only [Z, lkp, zE, reduceCtorEq, G, a8, E]
  refine aa fun K6 hK6 => ?_
  refine aj hP hN rfl ?_
  iterate 2 (refine ad rfl fun K0 Y => ?_; simp only [zE, op1, ev, lkp, ah, ag, ev, reduceCtorEq, G, E, J, V, M, U, Tryd.el110, Tryd.td110]; refine Y _ ?_; clear Y K0; simp only [put, app, a9, af, zE, zS, E])
  refine ai ?_
  refine hK6 _ ?_; clear hK6; refine ae [0, 1, 2, 6, 10] ?_; simp only [Z, lkp, zE, reduceCtorEq, G, a8, E]
  refine aP ?_
  refine ⟨by first | exact .inl rfl | exact .inr rfl, _, rfl, ?_⟩; simp only [Z, lkp, zE, reduceCtorEq, G, a8, E]
  first | exact ⟨rfl, rfl⟩ | rfl
end Go.Proofs.YtgmgnkmgofkfpaaDoor
namespace Go.Proofs.YtgmgnkmgofkfpaaDoor
open Go Go.AV
open Nat renaming reduceEqDiff → G, reduceAdd → E, reduceLeDiff → J, reduceLT → V, reduceMul → M, reduceSub → U
open List renaming set_cons_zero → aA, set_cons_succ → az
set_option maxRecDepth 100000 in
theorem r9 (n v : Nat) (xs : List Int) (hn : n < 1679616) (hx : xs.length ≤ 1000000000) : dc Tryd.prog [.row (.int .u8) 5 v xs] 67 [.one (.row 0 v), .one (.int .i64 (n : Int)), .one (.int .i64 36)] { av := .one (.row 0 (v + 1)), upd := [(0, .row (.int .u8) 5 (v + 1) (xs ++ d36 n))], new := [.dead 0], fp := [0] } := by
 refine d7 _ _ Tryd.func67 rfl (by kernel_rfl) (Nat.le_of_ble_eq_true rfl) (by intro k hk; simp only [List.length_cons, List.length_nil, Nat.zero_add, E] at hk; simp only [List.mem_cons, List.not_mem_nil, or_false]; omega) (fun C hP hN hB => ?_)
 replace hB : C.bL.length = 1 := by rw [hB]; rfl
 replace hN : C.N = 21 := hN
 simp only [a8, E]
 refine aa fun K1 hK1 => ?_
 refine aj hP hN rfl ?_
 (refine ad rfl fun K0 Y => ?_; simp only [zE, op1, ev, lkp, ah, ag, ev, reduceCtorEq, G, E, J, V, M, U, Tryd.el110, Tryd.td110, bS]; refine Y _ ?_; clear Y K0; simp only [put, app, a9, af, zE, zS, E])
 refine ai ?_
 refine hK1 _ ?_; clear hK1; refine ae [0, 1, 2, 6] ?_; simp only [Z, lkp, zE, reduceCtorEq, G, a8, E]
 refine aa fun K2 hK2 => ?_
 refine aj hP hN rfl ?_
 iterate 3 (refine ad rfl fun K0 Y => ?_; simp only [zE, op1, ev, lkp, ah, ag, ew, reduceCtorEq, G, E, J, V, M, U, Tryd.td126, Tryd.td2, bS]; (repeat refine And.intro (by first | omega | assumption | exact rfl) ?_); refine Y _ ?_; clear Y K0; simp only [put, app, a9, af, zE, zS, E])
 refine ai ?_
 refine hK2 _ ?_; clear hK2; refine ae [0, 1, 2, 6, 7] ?_; simp only [Z, lkp, zE, reduceCtorEq, G, a8, E]
 refine aa fun K3 hK3 => ?_
 refine aa fun K4 hK4 => ?_
 refine aj hP hN rfl ?_
 iterate 2 (refine ad rfl fun K0 Y => ?_; simp only [zE, op1, ev, lkp, ah, ag, aC, aD, aE, ao, aB, aR, reduceCtorEq, G, E, J, V, M, U, Tryd.td2, Tryd.td4, bS]; (repeat refine And.intro (by first | omega | assumption | exact rfl) ?_); refine Y _ ?_; clear Y K0; simp only [put, app, a9, af, zE, zS, E])
 refine ai ?_
 refine hK4 _ ?_; clear hK4; refine ae [0, 1, 2, 6, 7, 11] ?_; simp only [Z, lkp, zE, reduceCtorEq, G, a8, E]
 refine aG (by simp only [ev, Z, lkp, zE, reduceCtorEq, G, a8, E]; exact rfl) (fun hc5 => ?_) (fun hc5 => ?_)
 · exfalso; (try simp only [zB, reduceCtorEq] at hc5); all_goals (first | (cases hc5; done) | omega | (simp at hc5; done) | (simp_all; done))
 ·(try simp only [zB, reduceCtorEq] at hc5)
  refine aJ ?_
  refine hK3 _ ?_; clear hK3; refine ae [0, 1, 2, 6, 7, 11] ?_; simp only [Z, lkp, zE, reduceCtorEq, G, a8, E]
  refine aa fun K6 hK6 => ?_
  refine aj hP hN rfl ?_
  iterate 3 (refine ad rfl fun K0 Y => ?_; simp only [zE, op1, ev, lkp, ah, ag, ev, reduceCtorEq, G, E, J, V, M, U, Tryd.el110, Tryd.td110, Tryd.td126, Tryd.td3, bS]; refine Y _ ?_; clear Y K0; simp only [put, app, a9, af, zE, zS, E])
  refine ad rfl fun K0 Y => ?_
  refine bc (h := pc n v xs hn hx) rfl rfl (by first | exact rfl | (simp only [ev, Z, lkp, zE, reduceCtorEq, G, a8, E]; exact rfl)) (by simp only [zE, zG, op1, ev, lkp, ah, ag, au, acs, br, mv1, mvC, Ty.dflt, reduceCtorEq, G, E, J, V, M, U, bS]) ?_
  refine Y _ ?_; clear Y K0; simp only [put, app, a9, af, zE, zS, E]
  (refine ad rfl fun K0 Y => ?_; simp only [zE, op1, ev, lkp, ah, ag, ev, reduceCtorEq, G, E, J, V, M, U, Tryd.el110, Tryd.td110, bS]; refine Y _ ?_; clear Y K0; simp only [put, app, a9, af, zE, zS, E])
  refine ai ?_
  refine hK6 _ ?_; clear hK6; refine ae [0, 1, 2, 6, 7, 11] ?_; simp only [Z, lkp, zE, reduceCtorEq, G, a8, E]
  refine aP ?_
  refine ⟨by first | exact .inl rfl | exact .inr rfl, _, rfl, ?_⟩; simp only [Z, lkp, zE, reduceCtorEq, G, a8, E, bS]
  first | exact ⟨rfl, rfl⟩ | rfl
end Go.Proofs.YtgmgnkmgofkfpaaDoor
namespace Go.Proofs.YtgmgnkmgofkfpaaDoor
open Go Go.AV
open Nat renaming reduceEqDiff → G, reduceAdd → E, reduceLeDiff → J, reduceLT → V, reduceMul → M, reduceSub → U
open List renaming set_cons_zero → aA, set_cons_succ → az
set_option maxRecDepth 100000 in
theorem qx (n v : Nat) (xs : List Int) (hn : n < 1679616) (hx : xs.length ≤ 1000000000) : dc Tryd.prog [.row (.int .u8) 5 v xs] 63 [.one (.row 0 v), .one (.int .i64 (n : Int)), .one (.int .i64 36)] { av := .one (.row 0 (v + 1)), upd := [(0, .row (.int .u8) 5 (v + 1) (xs ++ d36 n))], new := [.dead 0], fp := [0] } := by
 refine d7 _ _ Tryd.func63 rfl (by kernel_rfl) (Nat.le_of_ble_eq_true rfl) (by intro k hk; simp only [List.length_cons, List.length_nil, Nat.zero_add, E] at hk; simp only [List.mem_cons, List.not_mem_nil, or_false]; omega) (fun C hP hN hB => ?_)
 replace hB : C.bL.length = 1 := by rw [hB]; rfl
 replace hN : C.N = 11 := hN
 simp only [a8, E]
 refine aa fun K1 hK1 => ?_
 refine aj hP hN rfl ?_
 (refine ad rfl fun K0 Y => ?_; simp only [zE, op1, ev, lkp, ah, ag, ev, reduceCtorEq, G, E, J, V, M, U, Tryd.el110, Tryd.td110]; refine Y _ ?_; clear Y K0; simp only [put, app, a9, af, zE, zS, E])
 refine ai ?_
 refine hK1 _ ?_; clear hK1; refine ae [0, 1, 2, 6] ?_; simp only [Z, lkp, zE, reduceCtorEq, G, a8, E]
 refine aa fun K2 hK2 => ?_
 refine aj hP hN rfl ?_
 iterate 3 (refine ad rfl fun K0 Y => ?_; simp only [zE, op1, ev, lkp, ah, ag, ev, reduceCtorEq, G, E, J, V, M, U, Tryd.el110, Tryd.td110, Tryd.td2, Tryd.td3]; refine Y _ ?_; clear Y K0; simp only [put, app, a9, af, zE, zS, E])
 refine ad rfl fun K0 Y => ?_
 refine bc (h := r9 n v xs hn hx) rfl rfl (by first | exact rfl | (simp only [ev, Z, lkp, zE, reduceCtorEq, G, a8, E]; exact rfl)) (by simp only [zE, zG, op1, ev, lkp, ah, ag, au, acs, br, mv1, mvC, Ty.dflt, reduceCtorEq, G, E, J, V, M, U]) ?_
 refine Y _ ?_; clear Y K0; simp only [put, app, a9, af, zE, zS, E]
 (refine ad rfl fun K0 Y => ?_; simp only [zE, op1, ev, lkp, ah, ag, ev, reduceCtorEq, G, E, J, V, M, U, Tryd.el110, Tryd.td110]; refine Y _ ?_; clear Y K0; simp only [put, app, a9, af, zE, zS, E])
 refine ai ?_
 refine hK2 _ ?_; clear hK2; refine ae [0, 1, 2, 6] ?_; simp only [Z, lkp, zE, reduceCtorEq, G, a8, E]
 refine aP ?_
 refine ⟨by first | exact .inl rfl | exact .inr rfl, _, rfl, ?_⟩; simp only [Z, lkp, zE, reduceCtorEq, G, a8, E]
 first | exact ⟨rfl, rfl⟩ | rfl
end Go.Proofs.YtgmgnkmgofkfpaaDoor
namespace Go.Proofs.YtgmgnkmgofkfpaaDoor
open Go Go.AV
open Nat renaming reduceEqDiff → G, reduceAdd → E, reduceLeDiff → J, reduceLT → V, reduceMul → M, reduceSub → U
open List renaming set_cons_zero → aA, set_cons_succ → az
set_option maxRecDepth 100000 in
theorem pR (xs : List Int) (hx : KB xs) (hl : xs.length ≤ 100000000) : ch Tryd.prog 54 [.one (.list (.int .i64) xs)] (.one (.str (dz xs))) := by
 refine bp Tryd.func54 rfl (by kernel_rfl) (Nat.le_of_ble_eq_true rfl) rfl fun C hP hN hB => ?_
 replace hN : C.N = 20 := hN
 simp only [a8, E]
 refine aa fun K1 hK1 => ?_
 refine aj hP hN rfl ?_
 (refine ad rfl fun K0 Y => ?_; simp only [zE, op1, ev, lkp, ah, ag, ev, reduceCtorEq, G, E, J, V, M, U, Tryd.td9]; refine Y _ ?_; clear Y K0; simp only [put, app, a9, af, zE, zS, E])
 refine ai ?_
 refine hK1 _ ?_; clear hK1; refine ae [0, 2] ?_; simp only [Z, lkp, zE, reduceCtorEq, G, a8, E]
 refine aa fun K2 hK2 => ?_
 refine aj hP hN rfl ?_
 (refine ad rfl fun K0 Y => ?_; simp only [zE, op1, ev, lkp, ah, ag, ev, reduceCtorEq, G, E, J, V, M, U, Tryd.el110, Tryd.td110]; refine Y _ ?_; clear Y K0; simp only [put, app, a9, af, zE, zS, E])
 refine ai ?_
 refine hK2 _ ?_; clear hK2; refine ae [0, 2, 3] ?_; simp only [Z, lkp, zE, reduceCtorEq, G, a8, E]
 refine aa fun K3 hK3 => ?_
 refine aa fun K4 hK4 => ?_
 refine aj hP hN rfl ?_
 iterate 3 (refine ad rfl fun K0 Y => ?_; simp only [zE, op1, ev, lkp, ah, ag, aF, bu, bh, ba, bb, bq, Nat.div_one, aK, bf, Ty.size, aL, dite_true, reduceCtorEq, G, E, J, V, M, U, Tryd.el25, Tryd.td25, Tryd.td3]; (repeat refine And.intro (by first | omega | assumption | exact rfl) ?_); (first | refine Y _ ?_ | refine Or.inl (Y _ ?_)); clear Y K0; simp only [put, app, a9, af, zE, zS, E])
 refine ai ?_
 refine hK4 _ ?_; clear hK4; refine ae [0, 2, 3, 6, 7, 8] ?_; simp only [Z, lkp, zE, reduceCtorEq, G, a8, E]
 refine aW ?_
 refine cL 3 (.int .u8) 5 (by decide) rfl ?_; simp only [List.length_cons, List.length_nil, List.cons_append, List.nil_append, Nat.zero_add, E]
 refine bM (fun n5 s5 => ∃ (k : Nat) (v : Nat), (k ≤ xs.length) ∧ n5 = xs.length - k ∧ s5 = { env := [(2, .one (.str [])), (3, .one (.row 0 v)), (6, .one (.list (.int .i64) xs)), (7, .one (.int .i64 (xs.length : Int))), (8, .one (.int .i64 (k : Int)))], L := [.row (.int .u8) 5 v (eO (xs.take k))] }) ?_ ?_
 ·exact ⟨_, _, aS [2, 3, 6, 7, 8], 0, 0, Nat.zero_le _, rfl, rfl⟩
 ·rintro n5 s5 ⟨k, v, hk, rfl, rfl⟩
  refine aa fun K6 hK6 => ?_
  refine aj hP hN rfl ?_
  (refine ad rfl fun K0 Y => ?_; simp only [zE, op1, ev, lkp, ah, ag, aC, aD, aE, ao, aB, aR, reduceCtorEq, G, E, J, V, M, U, Tryd.td3]; (repeat refine And.intro (by first | omega | assumption | exact rfl) ?_); refine Y _ ?_; clear Y K0; simp only [put, app, a9, af, zE, zS, E])
  refine ai ?_
  refine hK6 _ ?_; clear hK6; refine ae [2, 3, 6, 7, 8, 9] ?_; simp only [Z, lkp, zE, reduceCtorEq, G, a8, E]
  refine aa fun K7 hK7 => ?_
  refine aG (by simp only [ev, Z, lkp, zE, reduceCtorEq, G, a8, E]; exact rfl) (fun hc8 => ?_) (fun hc8 => ?_)
  ·(try simp only [zB, reduceCtorEq] at hc8)
   refine aJ ?_
   refine hK7 _ ?_; clear hK7; refine ae [2, 3, 6, 7, 8, 9] ?_; simp only [Z, lkp, zE, reduceCtorEq, G, a8, E]
   refine aa fun K9 hK9 => ?_
   refine aW ?_
   refine aa fun K10 hK10 => ?_
   refine aj hP hN rfl ?_
   iterate 3 (refine ad rfl fun K0 Y => ?_; simp only [zE, op1, ev, lkp, ah, ag, aI, zG, Ty.dflt, Ty.size, Nat.mul_one, ne_eq, not_false_eq_true, Int.natCast_one, Int.mul_one, ay, aw, ax, acs, aq, reduceCtorEq, G, E, J, V, M, U, Tryd.el25, Tryd.td25, Tryd.td3]; (repeat refine And.intro (by first | omega | assumption | exact rfl) ?_); refine Y _ ?_; clear Y K0; simp only [put, app, a9, af, zE, zS, E])
   refine ai ?_
   refine hK10 _ ?_; clear hK10; refine ae [2, 3, 5, 6, 7, 8, 9] ?_; simp only [Z, lkp, zE, reduceCtorEq, G, a8, E]
   have hkl := i9 (xs.take k); rw [List.length_take] at hkl
   have hxk := hx _ (cJ (w := xs) (i := k) (by omega))
   obtain ⟨n, hn⟩ : ∃ n : Nat, xs.getD k 0 = (n : Int) := ⟨(xs.getD k 0).toNat, by omega⟩
   rw [hn]
   have hn9 : n < 1679616 := by omega
   have hdl := ke (n := n)
   have hal : (eO (xs.take k) ++ d36 n).length = (eO (xs.take k)).length + (d36 n).length := List.length_append
   refine aj hP hN rfl ?_
   iterate 2 (refine ad rfl fun K0 Y => ?_; simp only [zE, op1, ev, lkp, ah, ag, ev, reduceCtorEq, G, E, J, V, M, U, Tryd.el110, Tryd.td110, Tryd.td3]; refine Y _ ?_; clear Y K0; simp only [put, app, a9, af, zE, zS, E])
   refine ad rfl fun K0 Y => ?_
   refine bc (h := qx n v (eO (xs.take k)) hn9 (by omega)) rfl rfl (by first | exact rfl | (simp only [ev, Z, lkp, zE, reduceCtorEq, G, a8, E]; exact rfl)) (by simp only [zE, zG, op1, ev, lkp, ah, ag, au, acs, br, mv1, mvC, Ty.dflt, reduceCtorEq, G, E, J, V, M, U]) ?_
   refine Y _ ?_; clear Y K0; simp only [put, app, a9, af, zE, zS, E]
   iterate 3 (refine ad rfl fun K0 Y => ?_; simp only [zE, op1, ev, lkp, ah, ag, aV, b9, bJ, rep, aL, aQ, au, Ty.size, aF, bu, bh, ba, bb, bq, Nat.div_one, aK, bf, dite_true, reduceCtorEq, G, E, J, V, M, U, Tryd.el110, Tryd.td1, Tryd.td110]; (repeat refine And.intro (by first | omega | assumption | exact rfl) ?_); (first | refine Y _ ?_ | refine Or.inl (Y _ ?_)); clear Y K0; simp only [put, app, a9, af, zE, zS, E])
   refine ai ?_
   refine hK9 _ ?_; clear hK9; refine ae [2, 3, 5, 6, 7, 8, 9] ?_; simp only [Z, lkp, zE, reduceCtorEq, G, a8, E]
   refine cv (n := 1) (L1 := [_]) rfl rfl (by rw [hB]; decide) rfl rfl ?_
   refine aj hP hN rfl ?_
   iterate 2 (refine ad rfl fun K0 Y => ?_; simp only [zE, op1, ev, lkp, ah, ag, aC, aD, aE, ao, aB, aR, reduceCtorEq, G, E, J, V, M, U, Tryd.td3]; (repeat refine And.intro (by first | omega | assumption | exact rfl) ?_); refine Y _ ?_; clear Y K0; simp only [put, app, a9, af, zE, zS, E])
   refine ai ?_
   refine ⟨_, _, ?_, aS [2, 3, 6, 7, 8], k + 1, v + 1 + 1, by omega, rfl, ?_⟩
   · omega
   · rw [mP (by omega) hn]; rfl
  ·(try simp only [zB, reduceCtorEq] at hc8)
   refine bK ?_
   refine hK3 _ ?_; clear hK3; refine ae [2, 3, 6, 7, 8, 9] ?_; simp only [Z, lkp, zE, reduceCtorEq, G, a8, E]
   refine aa fun K11 hK11 => ?_
   refine ck 0 rfl ?_; simp only [List.map_cons, List.map_nil, zS, G, and_self, and_true, true_and, and_false, false_and, if_true, if_false, eq_self, reduceCtorEq, Nat.one_ne_zero, Nat.zero_ne_one]
   have hkw : k = xs.length := by omega
   rw [hkw, List.take_length]
   refine aj hP hN rfl ?_
   (refine ad rfl fun K0 Y => ?_; simp only [zE, op1, ev, lkp, ah, ag, ev, reduceCtorEq, G, E, J, V, M, U, Tryd.el110, Tryd.td110]; refine Y _ ?_; clear Y K0; simp only [put, app, a9, af, zE, zS, E])
   (refine ad rfl fun K0 Y => ?_; simp only [zE, op1, ev, lkp, ah, ag, ew, reduceCtorEq, G, E, J, V, M, U, Tryd.el110, Tryd.td110, Tryd.td9]; refine ⟨⟨_, _, rfl, Tryd.td5, rfl⟩, Y _ ?_⟩; clear Y K0; simp only [put, app, a9, af, zE, zS, E])
   (refine ad rfl fun K0 Y => ?_; simp only [zE, op1, ev, lkp, ah, ag, ev, reduceCtorEq, G, E, J, V, M, U, Tryd.td9]; refine Y _ ?_; clear Y K0; simp only [put, app, a9, af, zE, zS, E])
   refine ai ?_
   refine hK11 _ ?_; clear hK11; refine ae [2, 3, 6, 7, 8, 9] ?_; simp only [Z, lkp, zE, reduceCtorEq, G, a8, E]
   refine aP ?_
   refine ⟨by first | exact .inl rfl | exact .inr rfl, _, rfl, ?_⟩; simp only [fzV, fz1, fzC, List.map_cons, List.map_nil, Z, lkp, zE, reduceCtorEq, G, a8, E]
   refine VLE.of_eq ?_
   rfl
end Go.Proofs.YtgmgnkmgofkfpaaDoor
namespace Go.Proofs.YtgmgnkmgofkfpaaDoor
open Go Go.AV
open Nat renaming reduceEqDiff → G, reduceAdd → E, reduceLeDiff → J, reduceLT → V, reduceMul → M, reduceSub → U
open List renaming set_cons_zero → aA, set_cons_succ → az
set_option maxRecDepth 100000 in
theorem pz (m : Mly) (p : Mpr) (S : List SS) (xs : List Int) (hS : ∀ s ∈ S, KB s.1) (hx : KB xs) (hl : xs.length ≤ 100000000) (h8 : S.length ≤ 128) (X0 X1 X2 X3 : AO) : dc Tryd.prog [X0, X1, X2, X3, .mp 82 .int (esS S), .vars 85 [.int .i64 m.inp, .int .i64 m.st, .list (.list (.int .i64)) m.nx, .list (.list (.int .i64)) m.ot, .int .i64 p.inp, .int .i64 p.ab, .int .i64 p.st, .list (.list (.int .i64)) p.nx, .list (.list (.int .i64)) p.sy, .row 6 S.length, .mpv 4], .row (.pair (.list (.int .i64)) (.pair (.list (.int .i64)) .unit)) 90 S.length (List.map dp S)] 43 [.one (.ptr 5 0 0 0), .one (.list (.int .i64) xs), .one .nils] { av := .tup [.one (.int .i64 (sgK S xs)), .one (.bool (sgB S xs))], upd := [(4, .mp 82 .int (esS (sgS S xs []))), (5, .vars 85 [.int .i64 m.inp, .int .i64 m.st, .list (.list (.int .i64)) m.nx, .list (.list (.int .i64)) m.ot, .int .i64 p.inp, .int .i64 p.ab, .int .i64 p.st, .list (.list (.int .i64)) p.nx, .list (.list (.int .i64)) p.sy, .row 6 (sgS S xs []).length, .mpv 4]), (6, .row (.pair (.list (.int .i64)) (.pair (.list (.int .i64)) .unit)) 90 (sgS S xs []).length (List.map dp (sgS S xs [])))], fp := [0, 1, 2, 3, 4, 5, 6] } := by
 have hks : (dz xs).length ≤ 9223372036854775807 := by unfold dz; rw [List.length_map]; have := i9 xs; omega
 refine d7 _ _ Tryd.func43 rfl (by kernel_rfl) (Nat.le_of_ble_eq_true rfl) (by intro k hk; simp only [List.length_cons, List.length_nil, Nat.zero_add, E] at hk; simp only [List.mem_cons, List.not_mem_nil, or_false]; omega) (fun C hP hN hB => ?_)
 replace hB : C.bL.length = 7 := by rw [hB]; rfl
 replace hN : C.N = 58 := hN
 simp only [a8, E]
 refine aa fun K1 hK1 => ?_
 refine aj hP hN rfl ?_
 iterate 2 (refine ad rfl fun K0 Y => ?_; simp only [zE, op1, ev, lkp, ah, ag, ev, reduceCtorEq, G, E, J, V, M, U, Tryd.td3, Tryd.td4, List.length_map]; refine Y _ ?_; clear Y K0; simp only [put, app, a9, af, zE, zS, E])
 refine ai ?_
 refine hK1 _ ?_; clear hK1; refine ae [0, 1, 2, 6, 7] ?_; simp only [Z, lkp, zE, reduceCtorEq, G, a8, E]
 refine aa fun K2 hK2 => ?_
 refine aj hP hN rfl ?_
 (refine ad rfl fun K0 Y => ?_; simp only [zE, op1, ev, lkp, ah, ag, ev, reduceCtorEq, G, E, J, V, M, U, Tryd.el25, Tryd.td25, List.length_map]; refine Y _ ?_; clear Y K0; simp only [put, app, a9, af, zE, zS, E])
 refine ad rfl fun K0 Y => ?_
 refine bc (h := aU (pR xs hx hl)) rfl rfl (by first | exact rfl | (simp only [ev, Z, lkp, zE, reduceCtorEq, G, a8, E]; exact rfl)) (by simp only [zE, zG, op1, ev, lkp, ah, ag, au, acs, br, mv1, mvC, Ty.dflt, reduceCtorEq, G, E, J, V, M, U, List.length_map]) ?_
 refine Y _ ?_; clear Y K0; simp only [put, app, a9, af, zE, zS, E]
 (refine ad rfl fun K0 Y => ?_; simp only [zE, op1, ev, lkp, ah, ag, ev, reduceCtorEq, G, E, J, V, M, U, Tryd.td9, List.length_map]; refine Y _ ?_; clear Y K0; simp only [put, app, a9, af, zE, zS, E])
 refine ai ?_
 refine hK2 _ ?_; clear hK2; refine ae [0, 1, 2, 6, 7, 8] ?_; simp only [Z, lkp, zE, reduceCtorEq, G, a8, E]
 refine aa fun K3 hK3 => ?_
 refine aa fun K4 hK4 => ?_
 obtain ⟨hls, hlg⟩ := jI hS hx
 refine aj hP hN rfl ?_
 iterate 11 (refine ad rfl fun K0 Y => ?_; simp only [zE, op1, ev, lkp, ah, ag, cO, am, ay, Nat.mul_one, aw, ax, acs, Ty.dflt, zG, aq, fT, db, VK.ac, bZ, reduceCtorEq, G, E, J, V, M, U, Tryd.mk82, Tryd.st85, Tryd.td1, Tryd.td103, Tryd.td3, Tryd.td4, Tryd.td85, Tryd.td9, List.length_map, hls, hlg]; (repeat refine And.intro (by first | omega | assumption | exact hks | exact rfl) ?_); (first | refine Y _ ?_ | refine Or.inl (Y _ ?_)); clear Y K0; simp only [put, app, a9, af, zE, zS, E])
 refine ai ?_
 refine hK4 _ ?_; clear hK4; refine ae [0, 1, 2, 6, 7, 8, 9, 10] ?_; simp only [Z, lkp, zE, reduceCtorEq, G, a8, E]
 refine aa fun K5 hK5 => ?_
 refine aj hP hN rfl ?_
 (refine ad rfl fun K0 Y => ?_; simp only [zE, op1, ev, lkp, ah, ag, ev, reduceCtorEq, G, E, J, V, M, U, Tryd.td4, List.length_map]; refine Y _ ?_; clear Y K0; simp only [put, app, a9, af, zE, zS, E])
 refine ai ?_
 refine hK5 _ ?_; clear hK5; refine ae [0, 1, 2, 6, 7, 8, 9, 10, 22] ?_; simp only [Z, lkp, zE, reduceCtorEq, G, a8, E]
 refine aG (by simp only [ev, Z, lkp, zE, reduceCtorEq, G, a8, E]; exact rfl) (fun hc6 => ?_) (fun hc6 => ?_)
 ·(try simp only [zB, reduceCtorEq] at hc6)
  have hps : ct S xs < S.length := by simpa using hc6
  refine aa fun K7 hK7 => ?_
  refine aj hP hN rfl ?_
  iterate 3 (refine ad rfl fun K0 Y => ?_; simp only [zE, op1, ev, lkp, ah, ag, ev, reduceCtorEq, G, E, J, V, M, U, Tryd.td3, Tryd.td4, List.length_map]; refine Y _ ?_; clear Y K0; simp only [put, app, a9, af, zE, zS, E])
  refine ai ?_
  refine hK7 _ ?_; clear hK7; refine ae [0, 1, 2, 6, 7, 8, 9, 10, 22] ?_; simp only [Z, lkp, zE, reduceCtorEq, G, a8, E]
  refine aP ?_
  refine ⟨by first | exact .inl rfl | exact .inr rfl, _, rfl, ?_⟩; simp only [Z, lkp, zE, reduceCtorEq, G, a8, E, List.length_map]
  first
  | (obtain ⟨e1, e2, e3⟩ := fh (w := []) hps; rw [e1, e2, e3, if_pos hps]; first | exact ⟨rfl, rfl⟩ | rfl)
  | (obtain ⟨e1, e2, e3⟩ := eg (w := []) hps hfl; rw [e1, e2, e3]; first | exact ⟨rfl, rfl⟩ | rfl)
  | (obtain ⟨e1, e2, e3⟩ := fa (w := []) hps hfl; rw [e1, e2, e3, ← fV hS hx hps, show (((S.length + 1 : Nat) : Int) - 1) = (S.length : Int) by omega]; simp only [List.length_append, List.length_cons, List.length_nil, Nat.zero_add, List.map_append, List.map_cons, List.map_nil]; first | exact ⟨rfl, rfl⟩ | exact ⟨rfl, trivial⟩ | rfl)
 ·(try simp only [zB, reduceCtorEq] at hc6)
  have hps : ¬ ct S xs < S.length := by simpa using hc6
  refine aJ ?_
  refine hK3 _ ?_; clear hK3; refine ae [0, 1, 2, 6, 7, 8, 9, 10, 22] ?_; simp only [Z, lkp, zE, reduceCtorEq, G, a8, E]
  refine aa fun K8 hK8 => ?_
  refine aa fun K9 hK9 => ?_
  refine aj hP hN rfl ?_
  iterate 6 (refine ad rfl fun K0 Y => ?_; simp only [zE, op1, ev, lkp, ah, ag, cO, am, ay, Nat.mul_one, aw, ax, acs, Ty.dflt, zG, aq, aF, bu, bh, ba, bb, bq, Nat.div_one, aK, bf, Ty.size, aL, dite_true, aC, aD, aE, ao, aB, aR, reduceCtorEq, G, E, J, V, M, U, Tryd.el83, Tryd.st85, Tryd.td103, Tryd.td2, Tryd.td3, Tryd.td4, Tryd.td83, Tryd.td85, List.length_map]; (repeat refine And.intro (by first | omega | assumption | exact hks | exact rfl) ?_); (first | refine Y _ ?_ | refine Or.inl (Y _ ?_)); clear Y K0; simp only [put, app, a9, af, zE, zS, E])
  refine ai ?_
  refine hK9 _ ?_; clear hK9; refine ae [0, 1, 2, 6, 7, 8, 9, 10, 22, 29] ?_; simp only [Z, lkp, zE, reduceCtorEq, G, a8, E]
  refine aG (by simp only [ev, Z, lkp, zE, reduceCtorEq, G, a8, E]; exact rfl) (fun hc10 => ?_) (fun hc10 => ?_)
  ·(try simp only [zB, reduceCtorEq] at hc10)
   have hfl : S.length = 128 := by omega
   refine aa fun K11 hK11 => ?_
   refine aj hP hN rfl ?_
   iterate 2 (refine ad rfl fun K0 Y => ?_; simp only [zE, op1, ev, lkp, ah, ag, ev, reduceCtorEq, G, E, J, V, M, U, Tryd.td3, Tryd.td4, List.length_map]; refine Y _ ?_; clear Y K0; simp only [put, app, a9, af, zE, zS, E])
   refine ai ?_
   refine hK11 _ ?_; clear hK11; refine ae [0, 1, 2, 6, 7, 8, 9, 10, 22, 29] ?_; simp only [Z, lkp, zE, reduceCtorEq, G, a8, E]
   refine aP ?_
   refine ⟨by first | exact .inl rfl | exact .inr rfl, _, rfl, ?_⟩; simp only [Z, lkp, zE, reduceCtorEq, G, a8, E, List.length_map]
   first
   | (obtain ⟨e1, e2, e3⟩ := fh (w := []) hps; rw [e1, e2, e3, if_pos hps]; first | exact ⟨rfl, rfl⟩ | rfl)
   | (obtain ⟨e1, e2, e3⟩ := eg (w := []) hps hfl; rw [e1, e2, e3]; first | exact ⟨rfl, rfl⟩ | rfl)
   | (obtain ⟨e1, e2, e3⟩ := fa (w := []) hps hfl; rw [e1, e2, e3, ← fV hS hx hps, show (((S.length + 1 : Nat) : Int) - 1) = (S.length : Int) by omega]; simp only [List.length_append, List.length_cons, List.length_nil, Nat.zero_add, List.map_append, List.map_cons, List.map_nil]; first | exact ⟨rfl, rfl⟩ | exact ⟨rfl, trivial⟩ | rfl)
  ·(try simp only [zB, reduceCtorEq] at hc10)
   have hfl : ¬ S.length = 128 := by omega
   refine aJ ?_
   refine hK8 _ ?_; clear hK8; refine ae [0, 1, 2, 6, 7, 8, 9, 10, 22, 29] ?_; simp only [Z, lkp, zE, reduceCtorEq, G, a8, E]
   refine aa fun K12 hK12 => ?_
   refine bW hP hN Tryd.mixed rfl ?_
   iterate 11 (refine ad rfl fun K0 Y => ?_; simp only [zE, op1, ev, lkp, ah, ag, cO, am, ay, Nat.mul_one, aw, ax, acs, Ty.dflt, zG, aq, aF, bu, bh, ba, bb, bq, Nat.div_one, aK, bf, Ty.size, aL, dite_true, da, db, kg, reduceCtorEq, G, E, J, V, M, U, Tryd.el83, Tryd.mk82, Tryd.st85, Tryd.td103, Tryd.td2, Tryd.td3, Tryd.td83, Tryd.td85, Tryd.td9, List.length_map]; (repeat refine And.intro (by first | omega | assumption | exact hks | exact rfl) ?_); (first | refine Y _ ?_ | refine Or.inl (Y _ ?_)); clear Y K0; simp only [put, app, a9, af, zE, zS, E])
   refine ai ?_
   refine ⟨by kernel_rfl, ?_⟩
   refine hK12 _ ?_; clear hK12; refine ae [0, 1, 2, 6, 7, 8, 9, 10, 22, 29] ?_; simp only [Z, lkp, zE, reduceCtorEq, G, a8, E]
   refine aa fun K13 hK13 => ?_
   refine aj hP hN rfl ?_
   iterate 13 (refine ad rfl fun K0 Y => ?_; simp only [zE, op1, ev, lkp, ah, ag, cO, am, ay, Nat.mul_one, aw, ax, acs, Ty.dflt, zG, aq, c9, b9, aQ, au, aV, bJ, rep, aL, Ty.size, aF, bu, bh, ba, bb, bq, Nat.div_one, aK, bf, dite_true, bI, reduceCtorEq, G, E, J, V, M, U, Tryd.el25, Tryd.el83, Tryd.st85, Tryd.st90, Tryd.td1, Tryd.td103, Tryd.td2, Tryd.td25, Tryd.td83, Tryd.td85, Tryd.td90, List.length_map]; (repeat refine And.intro (by first | omega | assumption | exact hks | exact rfl) ?_); (first | refine Y _ ?_ | refine Or.inl (Y _ ?_)); clear Y K0; simp only [put, app, a9, af, zE, zS, E])
   refine ai ?_
   refine hK13 _ ?_; clear hK13; refine ae [0, 1, 2, 6, 7, 8, 9, 10, 22, 29] ?_; simp only [Z, lkp, zE, reduceCtorEq, G, a8, E]
   refine aa fun K14 hK14 => ?_
   have hal : (List.map dp S ++ [(xs, [], ())]).length = S.length + 1 := by simp
   refine aj hP hN rfl ?_
   iterate 8 (refine ad rfl fun K0 Y => ?_; simp only [zE, op1, ev, lkp, ah, ag, cO, am, ay, Nat.mul_one, aw, ax, acs, Ty.dflt, zG, aq, aF, bu, bh, ba, bb, bq, Nat.div_one, aK, bf, Ty.size, aL, dite_true, aC, aD, aE, ao, aB, aR, reduceCtorEq, G, E, J, V, M, U, Tryd.el83, Tryd.st85, Tryd.td103, Tryd.td2, Tryd.td3, Tryd.td4, Tryd.td83, Tryd.td85, List.length_map, hal]; (repeat refine And.intro (by first | omega | assumption | exact hks | exact rfl) ?_); (first | refine Y _ ?_ | refine Or.inl (Y _ ?_)); clear Y K0; simp only [put, app, a9, af, zE, zS, E])
   refine ai ?_
   refine hK14 _ ?_; clear hK14; refine ae [0, 1, 2, 6, 7, 8, 9, 10, 22, 29] ?_; simp only [Z, lkp, zE, reduceCtorEq, G, a8, E]
   refine aP ?_
   refine ⟨by first | exact .inl rfl | exact .inr rfl, _, rfl, ?_⟩; simp only [Z, lkp, zE, reduceCtorEq, G, a8, E, List.length_map]
   first
   | (obtain ⟨e1, e2, e3⟩ := fh (w := []) hps; rw [e1, e2, e3, if_pos hps]; first | exact ⟨rfl, rfl⟩ | rfl)
   | (obtain ⟨e1, e2, e3⟩ := eg (w := []) hps hfl; rw [e1, e2, e3]; first | exact ⟨rfl, rfl⟩ | rfl)
   | (obtain ⟨e1, e2, e3⟩ := fa (w := []) hps hfl; rw [e1, e2, e3, ← fV hS hx hps, show (((S.length + 1 : Nat) : Int) - 1) = (S.length : Int) by omega]; simp only [List.length_append, List.length_cons, List.length_nil, Nat.zero_add, List.map_append, List.map_cons, List.map_nil]; first | exact ⟨rfl, rfl⟩ | exact ⟨rfl, trivial⟩ | rfl)
end Go.Proofs.YtgmgnkmgofkfpaaDoor
namespace Go.Proofs.YtgmgnkmgofkfpaaDoor
open Go Go.AV
open Nat renaming reduceEqDiff → G, reduceAdd → E, reduceLeDiff → J, reduceLT → V, reduceMul → M, reduceSub → U
open List renaming set_cons_zero → aA, set_cons_succ → az
set_option maxRecDepth 100000 in
theorem pq (m : Mly) (p : Mpr) (S : List SS) (xs w : List Int) (hS : ∀ s ∈ S, KB s.1) (hx : KB xs) (hl : xs.length ≤ 100000000) (h8 : S.length ≤ 128) (X0 X1 X2 X3 Y0 Y1 Y2 Y3 Y4 : AO) : dc Tryd.prog [X0, X1, X2, X3, .mp 82 .int (esS S), .vars 85 [.int .i64 m.inp, .int .i64 m.st, .list (.list (.int .i64)) m.nx, .list (.list (.int .i64)) m.ot, .int .i64 p.inp, .int .i64 p.ab, .int .i64 p.st, .list (.list (.int .i64)) p.nx, .list (.list (.int .i64)) p.sy, .row 6 S.length, .mpv 4], .row (.pair (.list (.int .i64)) (.pair (.list (.int .i64)) .unit)) 90 S.length (List.map dp S), Y0, Y1, Y2, Y3, Y4] 43 [.one (.ptr 5 0 0 0), .one (.list (.int .i64) xs), .one (.list (.int .i64) w)] { av := .tup [.one (.int .i64 (sgK S xs)), .one (.bool (sgB S xs))], upd := [(4, .mp 82 .int (esS (sgS S xs w))), (5, .vars 85 [.int .i64 m.inp, .int .i64 m.st, .list (.list (.int .i64)) m.nx, .list (.list (.int .i64)) m.ot, .int .i64 p.inp, .int .i64 p.ab, .int .i64 p.st, .list (.list (.int .i64)) p.nx, .list (.list (.int .i64)) p.sy, .row 6 (sgS S xs w).length, .mpv 4]), (6, .row (.pair (.list (.int .i64)) (.pair (.list (.int .i64)) .unit)) 90 (sgS S xs w).length (List.map dp (sgS S xs w)))], fp := [0, 1, 2, 3, 4, 5, 6, 7, 8, 9, 10, 11] } := by
 have hks : (dz xs).length ≤ 9223372036854775807 := by unfold dz; rw [List.length_map]; have := i9 xs; omega
 refine d7 _ _ Tryd.func43 rfl (by kernel_rfl) (Nat.le_of_ble_eq_true rfl) (by intro k hk; simp only [List.length_cons, List.length_nil, Nat.zero_add, E] at hk; simp only [List.mem_cons, List.not_mem_nil, or_false]; omega) (fun C hP hN hB => ?_)
 replace hB : C.bL.length = 12 := by rw [hB]; rfl
 replace hN : C.N = 58 := hN
 simp only [a8, E]
 refine aa fun K1 hK1 => ?_
 refine aj hP hN rfl ?_
 iterate 2 (refine ad rfl fun K0 Y => ?_; simp only [zE, op1, ev, lkp, ah, ag, ev, reduceCtorEq, G, E, J, V, M, U, Tryd.td3, Tryd.td4, List.length_map]; refine Y _ ?_; clear Y K0; simp only [put, app, a9, af, zE, zS, E])
 refine ai ?_
 refine hK1 _ ?_; clear hK1; refine ae [0, 1, 2, 6, 7] ?_; simp only [Z, lkp, zE, reduceCtorEq, G, a8, E]
 refine aa fun K2 hK2 => ?_
 refine aj hP hN rfl ?_
 (refine ad rfl fun K0 Y => ?_; simp only [zE, op1, ev, lkp, ah, ag, ev, reduceCtorEq, G, E, J, V, M, U, Tryd.el25, Tryd.td25, List.length_map]; refine Y _ ?_; clear Y K0; simp only [put, app, a9, af, zE, zS, E])
 refine ad rfl fun K0 Y => ?_
 refine bc (h := aU (pR xs hx hl)) rfl rfl (by first | exact rfl | (simp only [ev, Z, lkp, zE, reduceCtorEq, G, a8, E]; exact rfl)) (by simp only [zE, zG, op1, ev, lkp, ah, ag, au, acs, br, mv1, mvC, Ty.dflt, reduceCtorEq, G, E, J, V, M, U, List.length_map]) ?_
 refine Y _ ?_; clear Y K0; simp only [put, app, a9, af, zE, zS, E]
 (refine ad rfl fun K0 Y => ?_; simp only [zE, op1, ev, lkp, ah, ag, ev, reduceCtorEq, G, E, J, V, M, U, Tryd.td9, List.length_map]; refine Y _ ?_; clear Y K0; simp only [put, app, a9, af, zE, zS, E])
 refine ai ?_
 refine hK2 _ ?_; clear hK2; refine ae [0, 1, 2, 6, 7, 8] ?_; simp only [Z, lkp, zE, reduceCtorEq, G, a8, E]
 refine aa fun K3 hK3 => ?_
 refine aa fun K4 hK4 => ?_
 obtain ⟨hls, hlg⟩ := jI hS hx
 refine aj hP hN rfl ?_
 iterate 11 (refine ad rfl fun K0 Y => ?_; simp only [zE, op1, ev, lkp, ah, ag, cO, am, ay, Nat.mul_one, aw, ax, acs, Ty.dflt, zG, aq, fT, db, VK.ac, bZ, reduceCtorEq, G, E, J, V, M, U, Tryd.mk82, Tryd.st85, Tryd.td1, Tryd.td103, Tryd.td3, Tryd.td4, Tryd.td85, Tryd.td9, List.length_map, hls, hlg]; (repeat refine And.intro (by first | omega | assumption | exact hks | exact rfl) ?_); (first | refine Y _ ?_ | refine Or.inl (Y _ ?_)); clear Y K0; simp only [put, app, a9, af, zE, zS, E])
 refine ai ?_
 refine hK4 _ ?_; clear hK4; refine ae [0, 1, 2, 6, 7, 8, 9, 10] ?_; simp only [Z, lkp, zE, reduceCtorEq, G, a8, E]
 refine aa fun K5 hK5 => ?_
 refine aj hP hN rfl ?_
 (refine ad rfl fun K0 Y => ?_; simp only [zE, op1, ev, lkp, ah, ag, ev, reduceCtorEq, G, E, J, V, M, U, Tryd.td4, List.length_map]; refine Y _ ?_; clear Y K0; simp only [put, app, a9, af, zE, zS, E])
 refine ai ?_
 refine hK5 _ ?_; clear hK5; refine ae [0, 1, 2, 6, 7, 8, 9, 10, 22] ?_; simp only [Z, lkp, zE, reduceCtorEq, G, a8, E]
 refine aG (by simp only [ev, Z, lkp, zE, reduceCtorEq, G, a8, E]; exact rfl) (fun hc6 => ?_) (fun hc6 => ?_)
 ·(try simp only [zB, reduceCtorEq] at hc6)
  have hps : ct S xs < S.length := by simpa using hc6
  refine aa fun K7 hK7 => ?_
  refine aj hP hN rfl ?_
  iterate 3 (refine ad rfl fun K0 Y => ?_; simp only [zE, op1, ev, lkp, ah, ag, ev, reduceCtorEq, G, E, J, V, M, U, Tryd.td3, Tryd.td4, List.length_map]; refine Y _ ?_; clear Y K0; simp only [put, app, a9, af, zE, zS, E])
  refine ai ?_
  refine hK7 _ ?_; clear hK7; refine ae [0, 1, 2, 6, 7, 8, 9, 10, 22] ?_; simp only [Z, lkp, zE, reduceCtorEq, G, a8, E]
  refine aP ?_
  refine ⟨by first | exact .inl rfl | exact .inr rfl, _, rfl, ?_⟩; simp only [Z, lkp, zE, reduceCtorEq, G, a8, E, List.length_map]
  first
  | (obtain ⟨e1, e2, e3⟩ := fh (w := w) hps; rw [e1, e2, e3, if_pos hps]; first | exact ⟨rfl, rfl⟩ | rfl)
  | (obtain ⟨e1, e2, e3⟩ := eg (w := w) hps hfl; rw [e1, e2, e3]; first | exact ⟨rfl, rfl⟩ | rfl)
  | (obtain ⟨e1, e2, e3⟩ := fa (w := w) hps hfl; rw [e1, e2, e3, ← fV hS hx hps, show (((S.length + 1 : Nat) : Int) - 1) = (S.length : Int) by omega]; simp only [List.length_append, List.length_cons, List.length_nil, Nat.zero_add, List.map_append, List.map_cons, List.map_nil]; first | exact ⟨rfl, rfl⟩ | exact ⟨rfl, trivial⟩ | rfl)
 ·(try simp only [zB, reduceCtorEq] at hc6)
  have hps : ¬ ct S xs < S.length := by simpa using hc6
  refine aJ ?_
  refine hK3 _ ?_; clear hK3; refine ae [0, 1, 2, 6, 7, 8, 9, 10, 22] ?_; simp only [Z, lkp, zE, reduceCtorEq, G, a8, E]
  refine aa fun K8 hK8 => ?_
  refine aa fun K9 hK9 => ?_
  refine aj hP hN rfl ?_
  iterate 6 (refine ad rfl fun K0 Y => ?_; simp only [zE, op1, ev, lkp, ah, ag, cO, am, ay, Nat.mul_one, aw, ax, acs, Ty.dflt, zG, aq, aF, bu, bh, ba, bb, bq, Nat.div_one, aK, bf, Ty.size, aL, dite_true, aC, aD, aE, ao, aB, aR, reduceCtorEq, G, E, J, V, M, U, Tryd.el83, Tryd.st85, Tryd.td103, Tryd.td2, Tryd.td3, Tryd.td4, Tryd.td83, Tryd.td85, List.length_map]; (repeat refine And.intro (by first | omega | assumption | exact hks | exact rfl) ?_); (first | refine Y _ ?_ | refine Or.inl (Y _ ?_)); clear Y K0; simp only [put, app, a9, af, zE, zS, E])
  refine ai ?_
  refine hK9 _ ?_; clear hK9; refine ae [0, 1, 2, 6, 7, 8, 9, 10, 22, 29] ?_; simp only [Z, lkp, zE, reduceCtorEq, G, a8, E]
  refine aG (by simp only [ev, Z, lkp, zE, reduceCtorEq, G, a8, E]; exact rfl) (fun hc10 => ?_) (fun hc10 => ?_)
  ·(try simp only [zB, reduceCtorEq] at hc10)
   have hfl : S.length = 128 := by omega
   refine aa fun K11 hK11 => ?_
   refine aj hP hN rfl ?_
   iterate 2 (refine ad rfl fun K0 Y => ?_; simp only [zE, op1, ev, lkp, ah, ag, ev, reduceCtorEq, G, E, J, V, M, U, Tryd.td3, Tryd.td4, List.length_map]; refine Y _ ?_; clear Y K0; simp only [put, app, a9, af, zE, zS, E])
   refine ai ?_
   refine hK11 _ ?_; clear hK11; refine ae [0, 1, 2, 6, 7, 8, 9, 10, 22, 29] ?_; simp only [Z, lkp, zE, reduceCtorEq, G, a8, E]
   refine aP ?_
   refine ⟨by first | exact .inl rfl | exact .inr rfl, _, rfl, ?_⟩; simp only [Z, lkp, zE, reduceCtorEq, G, a8, E, List.length_map]
   first
   | (obtain ⟨e1, e2, e3⟩ := fh (w := w) hps; rw [e1, e2, e3, if_pos hps]; first | exact ⟨rfl, rfl⟩ | rfl)
   | (obtain ⟨e1, e2, e3⟩ := eg (w := w) hps hfl; rw [e1, e2, e3]; first | exact ⟨rfl, rfl⟩ | rfl)
   | (obtain ⟨e1, e2, e3⟩ := fa (w := w) hps hfl; rw [e1, e2, e3, ← fV hS hx hps, show (((S.length + 1 : Nat) : Int) - 1) = (S.length : Int) by omega]; simp only [List.length_append, List.length_cons, List.length_nil, Nat.zero_add, List.map_append, List.map_cons, List.map_nil]; first | exact ⟨rfl, rfl⟩ | exact ⟨rfl, trivial⟩ | rfl)
  ·(try simp only [zB, reduceCtorEq] at hc10)
   have hfl : ¬ S.length = 128 := by omega
   refine aJ ?_
   refine hK8 _ ?_; clear hK8; refine ae [0, 1, 2, 6, 7, 8, 9, 10, 22, 29] ?_; simp only [Z, lkp, zE, reduceCtorEq, G, a8, E]
   refine aa fun K12 hK12 => ?_
   refine bW hP hN Tryd.mixed rfl ?_
   iterate 11 (refine ad rfl fun K0 Y => ?_; simp only [zE, op1, ev, lkp, ah, ag, cO, am, ay, Nat.mul_one, aw, ax, acs, Ty.dflt, zG, aq, aF, bu, bh, ba, bb, bq, Nat.div_one, aK, bf, Ty.size, aL, dite_true, da, db, kg, reduceCtorEq, G, E, J, V, M, U, Tryd.el83, Tryd.mk82, Tryd.st85, Tryd.td103, Tryd.td2, Tryd.td3, Tryd.td83, Tryd.td85, Tryd.td9, List.length_map]; (repeat refine And.intro (by first | omega | assumption | exact hks | exact rfl) ?_); (first | refine Y _ ?_ | refine Or.inl (Y _ ?_)); clear Y K0; simp only [put, app, a9, af, zE, zS, E])
   refine ai ?_
   refine ⟨by kernel_rfl, ?_⟩
   refine hK12 _ ?_; clear hK12; refine ae [0, 1, 2, 6, 7, 8, 9, 10, 22, 29] ?_; simp only [Z, lkp, zE, reduceCtorEq, G, a8, E]
   refine aa fun K13 hK13 => ?_
   refine aj hP hN rfl ?_
   iterate 13 (refine ad rfl fun K0 Y => ?_; simp only [zE, op1, ev, lkp, ah, ag, cO, am, ay, Nat.mul_one, aw, ax, acs, Ty.dflt, zG, aq, c9, b9, aQ, au, aV, bJ, rep, aL, Ty.size, aF, bu, bh, ba, bb, bq, Nat.div_one, aK, bf, dite_true, bI, reduceCtorEq, G, E, J, V, M, U, Tryd.el25, Tryd.el83, Tryd.st85, Tryd.st90, Tryd.td1, Tryd.td103, Tryd.td2, Tryd.td25, Tryd.td83, Tryd.td85, Tryd.td90, List.length_map]; (repeat refine And.intro (by first | omega | assumption | exact hks | exact rfl) ?_); (first | refine Y _ ?_ | refine Or.inl (Y _ ?_)); clear Y K0; simp only [put, app, a9, af, zE, zS, E])
   refine ai ?_
   refine hK13 _ ?_; clear hK13; refine ae [0, 1, 2, 6, 7, 8, 9, 10, 22, 29] ?_; simp only [Z, lkp, zE, reduceCtorEq, G, a8, E]
   refine aa fun K14 hK14 => ?_
   have hal : (List.map dp S ++ [(xs, w, ())]).length = S.length + 1 := by simp
   refine aj hP hN rfl ?_
   iterate 8 (refine ad rfl fun K0 Y => ?_; simp only [zE, op1, ev, lkp, ah, ag, cO, am, ay, Nat.mul_one, aw, ax, acs, Ty.dflt, zG, aq, aF, bu, bh, ba, bb, bq, Nat.div_one, aK, bf, Ty.size, aL, dite_true, aC, aD, aE, ao, aB, aR, reduceCtorEq, G, E, J, V, M, U, Tryd.el83, Tryd.st85, Tryd.td103, Tryd.td2, Tryd.td3, Tryd.td4, Tryd.td83, Tryd.td85, List.length_map, hal]; (repeat refine And.intro (by first | omega | assumption | exact hks | exact rfl) ?_); (first | refine Y _ ?_ | refine Or.inl (Y _ ?_)); clear Y K0; simp only [put, app, a9, af, zE, zS, E])
   refine ai ?_
   refine hK14 _ ?_; clear hK14; refine ae [0, 1, 2, 6, 7, 8, 9, 10, 22, 29] ?_; simp only [Z, lkp, zE, reduceCtorEq, G, a8, E]
   refine aP ?_
   refine ⟨by first | exact .inl rfl | exact .inr rfl, _, rfl, ?_⟩; simp only [Z, lkp, zE, reduceCtorEq, G, a8, E, List.length_map]
   first
   | (obtain ⟨e1, e2, e3⟩ := fh (w := w) hps; rw [e1, e2, e3, if_pos hps]; first | exact ⟨rfl, rfl⟩ | rfl)
   | (obtain ⟨e1, e2, e3⟩ := eg (w := w) hps hfl; rw [e1, e2, e3]; first | exact ⟨rfl, rfl⟩ | rfl)
   | (obtain ⟨e1, e2, e3⟩ := fa (w := w) hps hfl; rw [e1, e2, e3, ← fV hS hx hps, show (((S.length + 1 : Nat) : Int) - 1) = (S.length : Int) by omega]; simp only [List.length_append, List.length_cons, List.length_nil, Nat.zero_add, List.map_append, List.map_cons, List.map_nil]; first | exact ⟨rfl, rfl⟩ | exact ⟨rfl, trivial⟩ | rfl)
end Go.Proofs.YtgmgnkmgofkfpaaDoor
