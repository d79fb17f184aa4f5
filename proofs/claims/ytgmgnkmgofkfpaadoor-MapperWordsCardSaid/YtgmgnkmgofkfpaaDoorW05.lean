/- Contracts of functions of this seat, each out of a walk through its code, and plain facts on what they compute. Conditions: those that each theorem names. -/
import Derived.Test.YtgmgnkmgofkfpaaDoorW04
set_option linter.unusedSimpArgs false
set_option linter.unusedVariables false
namespace Go.Proofs.YtgmgnkmgofkfpaaDoor
open Go Go.AV
open Nat renaming reduceEqDiff → E, reduceAdd → D, reduceLeDiff → G, reduceLT → U, reduceMul → J, reduceSub → M
open List renaming set_cons_zero → ax, set_cons_succ → aw
set_option maxRecDepth 100000 in
set_option maxHeartbeats 1500000 in
theorem oU (p : Mpr) (w : List Int) : cd Tryd.prog 19 [p.av, .one (.list (.int .i64) w)] (.tup [.one (.list (.int .i64) (pcW p w)), .one (.bool (pcB p w)), .one (.int .i64 (pcE p w))]) := by
 refine bn Tryd.func19 rfl (by kernel_rfl) (Nat.le_of_ble_eq_true rfl) rfl fun C hP hN hB => ?_
 replace hN : C.N = 134 := hN
 simp only [a8, D]
 refine aa fun K1 hK1 => ?_
 refine ai hP hN rfl ?_
 iterate 4 (refine a9 rfl fun K0 V => ?_; simp only [zE, op1, ev, lkp, ag, af, cB, ar, reduceCtorEq, E, D, G, U, J, M, Tryd.el25, Tryd.st24, Tryd.td24, Tryd.td25, Tryd.td3, Tryd.td4, Mpr.av]; (repeat refine And.intro (by first | omega | assumption | exact rfl) ?_); refine V _ ?_; clear V K0; simp only [put, app, Z, ae, zE, zS, D])
 refine ah ?_
 refine hK1 _ ?_; clear hK1; refine ad [0, 1, 2, 4, 5, 6] ?_; simp only [Y, lkp, zE, reduceCtorEq, E, a8, D]
 refine aa fun K2 hK2 => ?_
 refine aa fun K3 hK3 => ?_
 refine ai hP hN rfl ?_
 (refine a9 rfl fun K0 V => ?_; simp only [zE, op1, ev, lkp, ag, af, az, Nat.mul_one, au, ay, acs, Ty.dflt, zG, ao, reduceCtorEq, E, D, G, U, J, M, Tryd.st24, Tryd.td24, Mpr.av]; (repeat refine And.intro (by first | omega | assumption | exact rfl) ?_); refine V _ ?_; clear V K0; simp only [put, app, Z, ae, zE, zS, D])
 refine a9 rfl fun K0 V => ?_
 refine aY (h := aM (jg p)) rfl rfl (by first | exact rfl | (simp only [ev, Y, lkp, zE, reduceCtorEq, E, a8, D]; exact rfl)) (by simp only [zE, zG, op1, ev, lkp, ag, af, ar, acs, bl, mv1, mvC, Ty.dflt, reduceCtorEq, E, D, G, U, J, M, Mpr.av]) ?_
 refine V _ ?_; clear V K0; simp only [put, app, Z, ae, zE, zS, D]
 (refine a9 rfl fun K0 V => ?_; simp only [zE, op1, ev, lkp, ag, af, ev, reduceCtorEq, E, D, G, U, J, M, Tryd.td3, Mpr.av]; refine V _ ?_; clear V K0; simp only [put, app, Z, ae, zE, zS, D])
 refine ah ?_
 refine hK3 _ ?_; clear hK3; refine ad [0, 1, 2, 4, 5, 6, 7] ?_; simp only [Y, lkp, zE, reduceCtorEq, E, a8, D]
 refine aa fun K4 hK4 => ?_
 refine ai hP hN rfl ?_
 iterate 2 (refine a9 rfl fun K0 V => ?_; simp only [zE, op1, ev, lkp, ag, af, aD, aC, aB, ak, aA, aP, reduceCtorEq, E, D, G, U, J, M, Tryd.td3, Tryd.td4, Mpr.av]; (repeat refine And.intro (by first | omega | assumption | exact rfl) ?_); refine V _ ?_; clear V K0; simp only [put, app, Z, ae, zE, zS, D])
 refine ah ?_
 refine hK4 _ ?_; clear hK4; refine ad [0, 1, 2, 4, 5, 6, 7, 20] ?_; simp only [Y, lkp, zE, reduceCtorEq, E, a8, D]
 refine aE (by simp only [ev, Y, lkp, zE, reduceCtorEq, E, a8, D]; exact rfl) (fun hc5 => ?_) (fun hc5 => ?_)
 ·(try simp only [zB, reduceCtorEq] at hc5)
  refine aa fun K6 hK6 => ?_
  refine ai hP hN rfl ?_
  iterate 4 (refine a9 rfl fun K0 V => ?_; simp only [zE, op1, ev, lkp, ag, af, ev, reduceCtorEq, E, D, G, U, J, M, Tryd.el25, Tryd.td25, Tryd.td3, Tryd.td4, Mpr.av]; refine V _ ?_; clear V K0; simp only [put, app, Z, ae, zE, zS, D])
  refine ah ?_
  refine hK6 _ ?_; clear hK6; refine ad [0, 1, 2, 4, 5, 6, 7, 20] ?_; simp only [Y, lkp, zE, reduceCtorEq, E, a8, D]
  refine aL ?_
  refine ⟨by first | exact .inl rfl | exact .inr rfl, _, rfl, ?_⟩; simp only [fzV, fz1, fzC, List.map_cons, List.map_nil, Y, lkp, zE, reduceCtorEq, E, a8, D, Mpr.av]
  first
  | (have g9 := iy (w := w) (by assumption); obtain ⟨g1, g2, g3⟩ := g9; rw [g1, g2, g3]; exact bf ⟨aQ (aJ rfl), fun _ _ _ _ _ h => h, fun _ _ _ _ _ h => h, trivial⟩)
  | (have g9 := ip hv (w := w) (by assumption); obtain ⟨g1, g2, g3⟩ := g9; rw [g1, g2, g3]; exact bf ⟨aQ (aJ rfl), fun _ _ _ _ _ h => h, fun _ _ _ _ _ h => h, trivial⟩)
  | (have g9 := cX hv (w := w) (by omega); obtain ⟨g1, g2, g3⟩ := g9; rw [hcn] at g2 g3; rw [g1, g2, g3]; exact bf ⟨aQ (aJ rfl), fun _ _ _ _ _ h => h, fun _ _ _ _ _ h => h, trivial⟩)
  | (have g9 := cX hv (w := w) (by omega); obtain ⟨g1, g2, g3⟩ := g9; rw [hcn] at g2 g3; rw [g1, g2, g3]; exact VLE.of_eq (by simp))
 ·(try simp only [zB, reduceCtorEq] at hc5)
  have hv : bD p = 0 := by omega
  have hp := gq hv; have a1 := hp.i1; have a2 := hp.i2; have b1 := hp.b1; have b2 := hp.b2; have a3 := hp.n1; have a4 := hp.n2; have a5 := hp.s1; have a6 := hp.s2; have a7 := hp.sl
  refine aH ?_
  refine hK2 _ ?_; clear hK2; refine ad [0, 1, 2, 4, 5, 6, 7, 20] ?_; simp only [Y, lkp, zE, reduceCtorEq, E, a8, D]
  refine aa fun K7 hK7 => ?_
  refine aa fun K8 hK8 => ?_
  refine ai hP hN rfl ?_
  iterate 3 (refine a9 rfl fun K0 V => ?_; simp only [zE, op1, ev, lkp, ag, af, am, az, Nat.mul_one, au, ay, acs, Ty.dflt, zG, ao, reduceCtorEq, E, D, G, U, J, M, Tryd.el25, Tryd.st24, Tryd.td1, Tryd.td24, Tryd.td25, Tryd.td3, Mpr.av]; (repeat refine And.intro (by first | omega | assumption | exact rfl) ?_); refine V _ ?_; clear V K0; simp only [put, app, Z, ae, zE, zS, D])
  refine a9 rfl fun K0 V => ?_
  refine aY (h := aM (jV w p.ab)) rfl rfl (by first | exact rfl | (simp only [ev, Y, lkp, zE, reduceCtorEq, E, a8, D]; exact rfl)) (by simp only [zE, zG, op1, ev, lkp, ag, af, ar, acs, bl, mv1, mvC, Ty.dflt, reduceCtorEq, E, D, G, U, J, M, Mpr.av]) ?_
  refine V _ ?_; clear V K0; simp only [put, app, Z, ae, zE, zS, D]
  (refine a9 rfl fun K0 V => ?_; simp only [zE, op1, ev, lkp, ag, af, ev, reduceCtorEq, E, D, G, U, J, M, Tryd.td3, Mpr.av]; refine V _ ?_; clear V K0; simp only [put, app, Z, ae, zE, zS, D])
  refine ah ?_
  refine hK8 _ ?_; clear hK8; refine ad [0, 1, 2, 4, 5, 6, 7, 8, 20] ?_; simp only [Y, lkp, zE, reduceCtorEq, E, a8, D]
  refine aa fun K9 hK9 => ?_
  refine ai hP hN rfl ?_
  iterate 2 (refine a9 rfl fun K0 V => ?_; simp only [zE, op1, ev, lkp, ag, af, aD, aC, aB, ak, aA, aP, reduceCtorEq, E, D, G, U, J, M, Tryd.td3, Tryd.td4, Mpr.av]; (repeat refine And.intro (by first | omega | assumption | exact rfl) ?_); refine V _ ?_; clear V K0; simp only [put, app, Z, ae, zE, zS, D])
  refine ah ?_
  refine hK9 _ ?_; clear hK9; refine ad [0, 1, 2, 4, 5, 6, 7, 8, 20, 27] ?_; simp only [Y, lkp, zE, reduceCtorEq, E, a8, D]
  refine aE (by simp only [ev, Y, lkp, zE, reduceCtorEq, E, a8, D]; exact rfl) (fun hc10 => ?_) (fun hc10 => ?_)
  ·(try simp only [zB, reduceCtorEq] at hc10)
   refine aa fun K11 hK11 => ?_
   refine ai hP hN rfl ?_
   iterate 4 (refine a9 rfl fun K0 V => ?_; simp only [zE, op1, ev, lkp, ag, af, ev, reduceCtorEq, E, D, G, U, J, M, Tryd.el25, Tryd.td25, Tryd.td3, Tryd.td4, Mpr.av]; refine V _ ?_; clear V K0; simp only [put, app, Z, ae, zE, zS, D])
   refine ah ?_
   refine hK11 _ ?_; clear hK11; refine ad [0, 1, 2, 4, 5, 6, 7, 8, 20, 27] ?_; simp only [Y, lkp, zE, reduceCtorEq, E, a8, D]
   refine aL ?_
   refine ⟨by first | exact .inl rfl | exact .inr rfl, _, rfl, ?_⟩; simp only [fzV, fz1, fzC, List.map_cons, List.map_nil, Y, lkp, zE, reduceCtorEq, E, a8, D, Mpr.av]
   first
   | (have g9 := iy (w := w) (by assumption); obtain ⟨g1, g2, g3⟩ := g9; rw [g1, g2, g3]; exact bf ⟨aQ (aJ rfl), fun _ _ _ _ _ h => h, fun _ _ _ _ _ h => h, trivial⟩)
   | (have g9 := ip hv (w := w) (by assumption); obtain ⟨g1, g2, g3⟩ := g9; rw [g1, g2, g3]; exact bf ⟨aQ (aJ rfl), fun _ _ _ _ _ h => h, fun _ _ _ _ _ h => h, trivial⟩)
   | (have g9 := cX hv (w := w) (by omega); obtain ⟨g1, g2, g3⟩ := g9; rw [hcn] at g2 g3; rw [g1, g2, g3]; exact bf ⟨aQ (aJ rfl), fun _ _ _ _ _ h => h, fun _ _ _ _ _ h => h, trivial⟩)
   | (have g9 := cX hv (w := w) (by omega); obtain ⟨g1, g2, g3⟩ := g9; rw [hcn] at g2 g3; rw [g1, g2, g3]; exact VLE.of_eq (by simp))
  ·(try simp only [zB, reduceCtorEq] at hc10)
   have hw := iT (w := w) (n := p.ab) (by omega); have hwl := hw.len
   refine aH ?_
   refine hK7 _ ?_; clear hK7; refine ad [0, 1, 2, 4, 5, 6, 7, 8, 20, 27] ?_; simp only [Y, lkp, zE, reduceCtorEq, E, a8, D]
   refine aa fun K12 hK12 => ?_
   refine ai hP hN rfl ?_
   iterate 5 (refine a9 rfl fun K0 V => ?_; simp only [zE, op1, ev, lkp, ag, af, am, az, Nat.mul_one, au, ay, acs, Ty.dflt, zG, ao, aF, bz, bi, ba, bc, bv, Nat.div_one, aK, bg, Ty.size, aI, dite_true, cr, reduceCtorEq, E, D, G, U, J, M, Tryd.el22, Tryd.el75, Tryd.st24, Tryd.td22, Tryd.td24, Tryd.td3, Tryd.td75, Mpr.av]; (repeat refine And.intro (by first | omega | assumption | exact rfl) ?_); (first | refine V _ ?_ | refine Or.inl (V _ ?_)); clear V K0; simp only [put, app, Z, ae, zE, zS, D])
   refine ah ?_
   refine hK12 _ ?_; clear hK12; refine ad [0, 1, 2, 4, 5, 6, 7, 8, 9, 20, 27] ?_; simp only [Y, lkp, zE, reduceCtorEq, E, a8, D]
   refine aa fun K13 hK13 => ?_
   refine aa fun K14 hK14 => ?_
   refine ai hP hN rfl ?_
   (refine a9 rfl fun K0 V => ?_; simp only [zE, op1, ev, lkp, ag, af, ev, reduceCtorEq, E, D, G, U, J, M, Tryd.td3, Mpr.av]; refine V _ ?_; clear V K0; simp only [put, app, Z, ae, zE, zS, D])
   refine ah ?_
   refine hK14 _ ?_; clear hK14; refine ad [0, 1, 2, 4, 5, 6, 7, 8, 9, 10, 20, 27] ?_; simp only [Y, lkp, zE, reduceCtorEq, E, a8, D]
   refine aR ?_
   refine bH (fun n15 s15 => ∃ (k : Nat), (k ≤ p.nx.length) ∧ n15 = p.nx.length - k ∧ s15 = { env := [(1, .one (.list (.int .i64) w)), (2, .one (.ptr 0 0 0 0)), (4, .one .nils), (5, .one (.bool false)), (6, .one (.int .i64 0)), (9, .one (.row 1 0)), (10, .one (.int .i64 (k : Int)))], L := [.vars 24 [.int .i64 p.inp, .int .i64 p.ab, .int .i64 p.st, .list (.list (.int .i64)) p.nx, .list (.list (.int .i64)) p.sy], .row .bool 4 0 (prB (fun _ => true) p.nx.length k false)] }) ?_ ?_
   ·exact ⟨_, _, aT [1, 2, 4, 5, 6, 9, 10], 0, Nat.zero_le _, rfl, by rw [lj]; rfl⟩
   ·rintro n15 s15 ⟨k, hk, rfl, rfl⟩
    refine aa fun K16 hK16 => ?_
    refine aa fun K17 hK17 => ?_
    refine ai hP hN rfl ?_
    iterate 4 (refine a9 rfl fun K0 V => ?_; simp only [zE, op1, ev, lkp, ag, af, aF, bz, bi, ba, bc, bv, Nat.div_one, aK, bg, Ty.size, aI, dite_true, aD, aC, aB, ak, aA, aP, reduceCtorEq, E, D, G, U, J, M, Tryd.el75, Tryd.td3, Tryd.td4, Tryd.td75, Mpr.av, eW]; (repeat refine And.intro (by first | omega | assumption | exact rfl) ?_); (first | refine V _ ?_ | refine Or.inl (V _ ?_)); clear V K0; simp only [put, app, Z, ae, zE, zS, D])
    refine ah ?_
    refine hK17 _ ?_; clear hK17; refine ad [1, 2, 4, 5, 6, 9, 10, 36] ?_; simp only [Y, lkp, zE, reduceCtorEq, E, a8, D]
    refine aE (by simp only [ev, Y, lkp, zE, reduceCtorEq, E, a8, D]; exact rfl) (fun hc18 => ?_) (fun hc18 => ?_)
    ·(try simp only [zB, reduceCtorEq] at hc18)
     refine aH ?_
     refine hK16 _ ?_; clear hK16; refine ad [1, 2, 4, 5, 6, 9, 10, 36] ?_; simp only [Y, lkp, zE, reduceCtorEq, E, a8, D]
     refine aa fun K19 hK19 => ?_
     refine aR ?_
     refine ai hP hN rfl ?_
     iterate 4 (refine a9 rfl fun K0 V => ?_; simp only [zE, op1, ev, lkp, ag, af, aG, zG, Ty.dflt, Ty.size, Nat.mul_one, ne_eq, not_false_eq_true, Int.natCast_one, Int.mul_one, bK, ar, aS, aI, acs, reduceCtorEq, E, D, G, U, J, M, Tryd.el75, Tryd.td3, Tryd.td4, Tryd.td75, Mpr.av, eW, List.length_map, List.length_range]; (repeat refine And.intro (by first | omega | assumption | exact rfl) ?_); refine V _ ?_; clear V K0; simp only [put, app, Z, ae, zE, zS, D])
     refine ah ?_
     refine hK19 _ ?_; clear hK19; refine ad [1, 2, 4, 5, 6, 9, 10, 36] ?_; simp only [Y, lkp, zE, reduceCtorEq, E, a8, D]
     refine ai hP hN rfl ?_
     iterate 3 (refine a9 rfl fun K0 V => ?_; simp only [zE, op1, ev, lkp, ag, af, aD, aC, aB, ak, aA, aP, reduceCtorEq, E, D, G, U, J, M, Tryd.td3, Mpr.av]; (repeat refine And.intro (by first | omega | assumption | exact rfl) ?_); refine V _ ?_; clear V K0; simp only [put, app, Z, ae, zE, zS, D])
     refine ah ?_
     refine ⟨_, _, ?_, aT [1, 2, 4, 5, 6, 9, 10], k + 1, by omega, rfl, ?_⟩
     · omega
     · rw [f9, show (true : Bool) = (fun _ => true) k from rfl, fB]; rfl
    ·(try simp only [zB, reduceCtorEq] at hc18)
     refine bG ?_
     refine hK13 _ ?_; clear hK13; refine ad [1, 2, 4, 5, 6, 9, 10, 36] ?_; simp only [Y, lkp, zE, reduceCtorEq, E, a8, D]
     refine aa fun K20 hK20 => ?_
     refine bY 1 rfl ?_; simp only [List.map_cons, List.map_nil, zS, E, and_self, and_true, true_and, and_false, false_and, if_true, if_false, eq_self, reduceCtorEq, Nat.one_ne_zero, Nat.zero_ne_one]
     obtain rfl : k = p.nx.length := by omega
     rw [gp, kf]
     refine cp (n := 1) (L1 := [_]) rfl rfl (by rw [hB]; decide) rfl rfl ?_
     refine ai hP hN rfl ?_
     (refine a9 rfl fun K0 V => ?_; simp only [zE, op1, ev, lkp, ag, af, ev, reduceCtorEq, E, D, G, U, J, M, Tryd.el75, Tryd.td75, Mpr.av]; refine V _ ?_; clear V K0; simp only [put, app, Z, ae, zE, zS, D])
     (refine a9 rfl fun K0 V => ?_; simp only [zE, op1, ev, lkp, ag, af, aZ, bj, bM, rep, aI, aS, ar, Ty.size, reduceCtorEq, E, D, G, U, J, M, Tryd.el78, Tryd.td1, Tryd.td78, Mpr.av]; (repeat refine And.intro (by first | omega | assumption | exact rfl) ?_); refine Or.inr (Or.inl (V _ ?_)); clear V K0; simp only [put, app, Z, ae, zE, zS, D])
     (refine a9 rfl fun K0 V => ?_; simp only [zE, op1, ev, lkp, ag, af, ev, reduceCtorEq, E, D, G, U, J, M, Tryd.el78, Tryd.td78, Mpr.av]; refine V _ ?_; clear V K0; simp only [put, app, Z, ae, zE, zS, D])
     refine ah ?_
     refine hK20 _ ?_; clear hK20; refine ad [1, 2, 4, 5, 6, 9, 10, 11, 36] ?_; simp only [Y, lkp, zE, reduceCtorEq, E, a8, D]
     refine aa fun K21 hK21 => ?_
     refine aa fun K22 hK22 => ?_
     refine ai hP hN rfl ?_
     (refine a9 rfl fun K0 V => ?_; simp only [zE, op1, ev, lkp, ag, af, ev, reduceCtorEq, E, D, G, U, J, M, Tryd.td3, Mpr.av]; refine V _ ?_; clear V K0; simp only [put, app, Z, ae, zE, zS, D])
     refine ah ?_
     refine hK22 _ ?_; clear hK22; refine ad [1, 2, 4, 5, 6, 9, 10, 11, 12, 36] ?_; simp only [Y, lkp, zE, reduceCtorEq, E, a8, D]
     refine aR ?_
     refine bH (fun n23 s23 => ∃ (k : Nat) (v : Nat), (k ≤ w.length) ∧ n23 = w.length - k ∧ s23 = { env := [(1, .one (.list (.int .i64) w)), (2, .one (.ptr 0 0 0 0)), (4, .one .nils), (5, .one (.bool false)), (6, .one (.int .i64 0)), (11, .one (.row 1 v)), (12, .one (.int .i64 (k : Int)))], L := [.vars 24 [.int .i64 p.inp, .int .i64 p.ab, .int .i64 p.st, .list (.list (.int .i64)) p.nx, .list (.list (.int .i64)) p.sy], .row (.list .bool) 75 v (csL p w (k + 1))] }) ?_ ?_
     ·exact ⟨_, _, aT [1, 2, 4, 5, 6, 11, 12], 0, 0, Nat.zero_le _, rfl, by rw [pf]; rfl⟩
     ·rintro n23 s23 ⟨k, v, hk, rfl, rfl⟩
      refine aa fun K24 hK24 => ?_
      refine aa fun K25 hK25 => ?_
      refine ai hP hN rfl ?_
      iterate 4 (refine a9 rfl fun K0 V => ?_; simp only [zE, op1, ev, lkp, ag, af, aF, bz, bi, ba, bc, bv, Nat.div_one, aK, bg, Ty.size, aI, dite_true, aD, aC, aB, ak, aA, aP, reduceCtorEq, E, D, G, U, J, M, Tryd.el25, Tryd.td25, Tryd.td3, Tryd.td4, Mpr.av]; (repeat refine And.intro (by first | omega | assumption | exact rfl) ?_); (first | refine V _ ?_ | refine Or.inl (V _ ?_)); clear V K0; simp only [put, app, Z, ae, zE, zS, D])
      refine ah ?_
      refine hK25 _ ?_; clear hK25; refine ad [1, 2, 4, 5, 6, 11, 12, 47] ?_; simp only [Y, lkp, zE, reduceCtorEq, E, a8, D]
      refine aE (by simp only [ev, Y, lkp, zE, reduceCtorEq, E, a8, D]; exact rfl) (fun hc26 => ?_) (fun hc26 => ?_)
      ·(try simp only [zB, reduceCtorEq] at hc26)
       refine aH ?_
       refine hK24 _ ?_; clear hK24; refine ad [1, 2, 4, 5, 6, 11, 12, 47] ?_; simp only [Y, lkp, zE, reduceCtorEq, E, a8, D]
       refine aa fun K27 hK27 => ?_
       refine aR ?_
       have hkw : k < w.length := by omega
       have hgi : ∀ z, (csL p w (k + 1)).getD k z = cnP p (w.drop (w.length - k)) := fun z => kT (by omega) z
       have hix : ((w.length : Int) - 1 - (k : Int)).toNat = w.length - 1 - k := by omega
       have hcl := jt p w (k + 1)
       refine bW hP hN Tryd.mixed rfl ?_
       iterate 14 (refine a9 rfl fun K0 V => ?_; simp only [zE, op1, ev, lkp, ag, af, az, Nat.mul_one, au, ay, acs, Ty.dflt, zG, ao, aG, Ty.size, ne_eq, not_false_eq_true, Int.natCast_one, Int.mul_one, aF, bz, bi, ba, bc, bv, Nat.div_one, aK, bg, aI, dite_true, aD, aC, aB, ak, aA, aP, reduceCtorEq, E, D, G, U, J, M, Tryd.el25, Tryd.el75, Tryd.el78, Tryd.st24, Tryd.td24, Tryd.td25, Tryd.td3, Tryd.td75, Tryd.td78, Mpr.av, hgi, hix]; (repeat refine And.intro (by first | omega | assumption | exact rfl) ?_); (first | refine V _ ?_ | refine Or.inl (V _ ?_)); clear V K0; simp only [put, app, Z, ae, zE, zS, D])
       refine a9 rfl fun K0 V => ?_
       refine aY (h := aM (q9 p (cnP p (w.drop (w.length - k))) (w.getD (w.length - 1 - k) 0) hp (dw _ _))) rfl rfl (by first | exact rfl | (simp only [ev, Y, lkp, zE, reduceCtorEq, E, a8, D]; exact rfl)) (by simp only [zE, zG, op1, ev, lkp, ag, af, ar, acs, bl, mv1, mvC, Ty.dflt, reduceCtorEq, E, D, G, U, J, M, Mpr.av, hgi, hix]) ?_
       refine V _ ?_; clear V K0; simp only [put, app, Z, ae, zE, zS, D]
       iterate 3 (refine a9 rfl fun K0 V => ?_; simp only [zE, op1, ev, lkp, ag, af, aZ, bj, bM, rep, aI, aS, ar, Ty.size, aF, bz, bi, ba, bc, bv, Nat.div_one, aK, bg, dite_true, reduceCtorEq, E, D, G, U, J, M, Tryd.el78, Tryd.td1, Tryd.td78, Mpr.av, hgi, hix]; (repeat refine And.intro (by first | omega | assumption | exact rfl) ?_); (first | refine V _ ?_ | refine Or.inl (V _ ?_)); clear V K0; simp only [put, app, Z, ae, zE, zS, D])
       refine ah ?_
       refine ⟨by kernel_rfl, ?_⟩
       refine hK27 _ ?_; clear hK27; refine ad [1, 2, 4, 5, 6, 11, 12, 47] ?_; simp only [Y, lkp, zE, reduceCtorEq, E, a8, D]
       refine ai hP hN rfl ?_
       iterate 3 (refine a9 rfl fun K0 V => ?_; simp only [zE, op1, ev, lkp, ag, af, aD, aC, aB, ak, aA, aP, reduceCtorEq, E, D, G, U, J, M, Tryd.td3, Mpr.av]; (repeat refine And.intro (by first | omega | assumption | exact rfl) ?_); refine V _ ?_; clear V K0; simp only [put, app, Z, ae, zE, zS, D])
       refine ah ?_
       refine ⟨_, _, ?_, aT [1, 2, 4, 5, 6, 11, 12], k + 1, v + 1, by omega, rfl, ?_⟩
       · omega
       · rw [nT p w (k + 1), ← oD hkw]; rfl
      ·(try simp only [zB, reduceCtorEq] at hc26)
       refine bG ?_
       refine hK21 _ ?_; clear hK21; refine ad [1, 2, 4, 5, 6, 11, 12, 47] ?_; simp only [Y, lkp, zE, reduceCtorEq, E, a8, D]
       refine aa fun K28 hK28 => ?_
       refine aa fun K29 hK29 => ?_
       refine bY 1 rfl ?_; simp only [List.map_cons, List.map_nil, zS, E, and_self, and_true, true_and, and_false, false_and, if_true, if_false, eq_self, reduceCtorEq, Nat.one_ne_zero, Nat.zero_ne_one]
       obtain rfl : k = w.length := by omega
       refine cp (n := 1) (L1 := [_]) rfl rfl (by rw [hB]; decide) rfl rfl ?_
       have hgi : gt (.list .bool) (csL p w (w.length + 1)) (w.length : Int) = cnP p w := by unfold gt; rw [Int.toNat_natCast, kT (by omega), Nat.sub_self]; rfl
       have hcl := jt p w (w.length + 1)
       have hcl2 := dw p w
       refine bW hP hN Tryd.mixed rfl ?_
       iterate 10 (refine a9 rfl fun K0 V => ?_; simp only [zE, op1, ev, lkp, ag, af, aF, bz, bi, ba, bc, bv, Nat.div_one, aK, bg, Ty.size, aI, dite_true, aG, zG, Ty.dflt, Nat.mul_one, ne_eq, not_false_eq_true, Int.natCast_one, Int.mul_one, az, au, ay, acs, ao, am, dW, reduceCtorEq, E, D, G, U, J, M, Tryd.el25, Tryd.el75, Tryd.el78, Tryd.st24, Tryd.td2, Tryd.td24, Tryd.td25, Tryd.td3, Tryd.td4, Tryd.td75, Tryd.td78, Mpr.av, hgi]; (repeat refine And.intro (by first | omega | assumption | exact rfl) ?_); (first | refine V _ ?_ | refine Or.inl (V _ ?_)); clear V K0; simp only [put, app, Z, ae, zE, zS, D])
       refine ah ?_
       refine ⟨by kernel_rfl, ?_⟩
       refine hK29 _ ?_; clear hK29; refine ad [1, 2, 4, 5, 6, 11, 12, 47, 76] ?_; simp only [Y, lkp, zE, reduceCtorEq, E, a8, D]
       refine aE (by simp only [ev, Y, lkp, zE, reduceCtorEq, E, a8, D]; exact rfl) (fun hc30 => ?_) (fun hc30 => ?_)
       ·(try simp only [zB, reduceCtorEq] at hc30)
        have hcn : (cnP p w).getD p.st.toNat false = false := by simpa using hc30
        refine aa fun K31 hK31 => ?_
        refine ai hP hN rfl ?_
        iterate 3 (refine a9 rfl fun K0 V => ?_; simp only [zE, op1, ev, lkp, ag, af, ev, reduceCtorEq, E, D, G, U, J, M, Tryd.el25, Tryd.td25, Tryd.td3, Tryd.td4, Mpr.av]; refine V _ ?_; clear V K0; simp only [put, app, Z, ae, zE, zS, D])
        refine ah ?_
        refine hK31 _ ?_; clear hK31; refine ad [1, 2, 4, 5, 6, 11, 12, 47, 76] ?_; simp only [Y, lkp, zE, reduceCtorEq, E, a8, D]
        refine aL ?_
        refine ⟨by first | exact .inl rfl | exact .inr rfl, _, rfl, ?_⟩; simp only [fzV, fz1, fzC, List.map_cons, List.map_nil, Y, lkp, zE, reduceCtorEq, E, a8, D, Mpr.av]
        first
        | (have g9 := iy (w := w) (by assumption); obtain ⟨g1, g2, g3⟩ := g9; rw [g1, g2, g3]; exact bf ⟨aQ (aJ rfl), fun _ _ _ _ _ h => h, fun _ _ _ _ _ h => h, trivial⟩)
        | (have g9 := ip hv (w := w) (by assumption); obtain ⟨g1, g2, g3⟩ := g9; rw [g1, g2, g3]; exact bf ⟨aQ (aJ rfl), fun _ _ _ _ _ h => h, fun _ _ _ _ _ h => h, trivial⟩)
        | (have g9 := cX hv (w := w) (by omega); obtain ⟨g1, g2, g3⟩ := g9; rw [hcn] at g2 g3; rw [g1, g2, g3]; exact bf ⟨aQ (aJ rfl), fun _ _ _ _ _ h => h, fun _ _ _ _ _ h => h, trivial⟩)
        | (have g9 := cX hv (w := w) (by omega); obtain ⟨g1, g2, g3⟩ := g9; rw [hcn] at g2 g3; rw [g1, g2, g3]; exact VLE.of_eq (by simp))
       ·(try simp only [zB, reduceCtorEq] at hc30)
        have hcn : (cnP p w).getD p.st.toNat false = true := by simpa using hc30
        refine aH ?_
        refine hK28 _ ?_; clear hK28; refine ad [1, 2, 4, 5, 6, 11, 12, 47, 76] ?_; simp only [Y, lkp, zE, reduceCtorEq, E, a8, D]
        refine aa fun K32 hK32 => ?_
        refine ai hP hN rfl ?_
        (refine a9 rfl fun K0 V => ?_; simp only [zE, op1, ev, lkp, ag, af, ev, reduceCtorEq, E, D, G, U, J, M, Tryd.el25, Tryd.td25, Mpr.av]; refine V _ ?_; clear V K0; simp only [put, app, Z, ae, zE, zS, D])
        refine ah ?_
        refine hK32 _ ?_; clear hK32; refine ad [1, 2, 4, 5, 6, 11, 12, 13, 47, 76] ?_; simp only [Y, lkp, zE, reduceCtorEq, E, a8, D]
        refine aa fun K33 hK33 => ?_
        refine ai hP hN rfl ?_
        iterate 3 (refine a9 rfl fun K0 V => ?_; simp only [zE, op1, ev, lkp, ag, af, am, az, Nat.mul_one, au, ay, acs, Ty.dflt, zG, ao, reduceCtorEq, E, D, G, U, J, M, Tryd.st24, Tryd.td2, Tryd.td24, Tryd.td3, Mpr.av]; (repeat refine And.intro (by first | omega | assumption | exact rfl) ?_); refine V _ ?_; clear V K0; simp only [put, app, Z, ae, zE, zS, D])
        refine ah ?_
        refine hK33 _ ?_; clear hK33; refine ad [1, 2, 4, 5, 6, 11, 12, 13, 14, 47, 76] ?_; simp only [Y, lkp, zE, reduceCtorEq, E, a8, D]
        refine aa fun K34 hK34 => ?_
        refine aa fun K35 hK35 => ?_
        refine ai hP hN rfl ?_
        (refine a9 rfl fun K0 V => ?_; simp only [zE, op1, ev, lkp, ag, af, ev, reduceCtorEq, E, D, G, U, J, M, Tryd.td3, Mpr.av]; refine V _ ?_; clear V K0; simp only [put, app, Z, ae, zE, zS, D])
        refine ah ?_
        refine hK35 _ ?_; clear hK35; refine ad [1, 2, 4, 5, 6, 11, 12, 13, 14, 15, 47, 76] ?_; simp only [Y, lkp, zE, reduceCtorEq, E, a8, D]
        refine aR ?_
        refine cQ 13 (.int .i64) 3 (by decide) rfl ?_; simp only [List.length_cons, List.length_nil, List.cons_append, List.nil_append, Nat.zero_add, D]
        refine bH (fun n36 s36 => ∃ (k : Nat) (v : Nat), (k ≤ w.length) ∧ n36 = w.length - k ∧ s36 = { env := [(1, .one (.list (.int .i64) w)), (2, .one (.ptr 0 0 0 0)), (4, .one .nils), (5, .one (.bool false)), (6, .one (.int .i64 0)), (11, .one (.list (.list .bool) (csL p w (w.length + 1)))), (13, .one (.row 1 v)), (14, .one (.int .i64 (p.rn p.st ((coW p p.st w).take k)))), (15, .one (.int .i64 (k : Int)))], L := [.vars 24 [.int .i64 p.inp, .int .i64 p.ab, .int .i64 p.st, .list (.list (.int .i64)) p.nx, .list (.list (.int .i64)) p.sy], .row (.int .i64) 3 v ((coW p p.st w).take k)] }) ?_ ?_
        ·exact ⟨_, _, aT [1, 2, 4, 5, 6, 11, 13, 14, 15], 0, 0, Nat.zero_le _, rfl, rfl⟩
        ·rintro n36 s36 ⟨k, v, hk, rfl, rfl⟩
         refine aa fun K37 hK37 => ?_
         refine aa fun K38 hK38 => ?_
         refine ai hP hN rfl ?_
         iterate 4 (refine a9 rfl fun K0 V => ?_; simp only [zE, op1, ev, lkp, ag, af, aF, bz, bi, ba, bc, bv, Nat.div_one, aK, bg, Ty.size, aI, dite_true, aD, aC, aB, ak, aA, aP, reduceCtorEq, E, D, G, U, J, M, Tryd.el25, Tryd.td25, Tryd.td3, Tryd.td4, Mpr.av]; (repeat refine And.intro (by first | omega | assumption | exact rfl) ?_); (first | refine V _ ?_ | refine Or.inl (V _ ?_)); clear V K0; simp only [put, app, Z, ae, zE, zS, D])
         refine ah ?_
         refine hK38 _ ?_; clear hK38; refine ad [1, 2, 4, 5, 6, 11, 13, 14, 15, 82] ?_; simp only [Y, lkp, zE, reduceCtorEq, E, a8, D]
         refine aE (by simp only [ev, Y, lkp, zE, reduceCtorEq, E, a8, D]; exact rfl) (fun hc39 => ?_) (fun hc39 => ?_)
         ·(try simp only [zB, reduceCtorEq] at hc39)
          refine aH ?_
          refine hK37 _ ?_; clear hK37; refine ad [1, 2, 4, 5, 6, 11, 13, 14, 15, 82] ?_; simp only [Y, lkp, zE, reduceCtorEq, E, a8, D]
          refine aa fun K40 hK40 => ?_
          refine aR ?_
          refine aa fun K41 hK41 => ?_
          refine ai hP hN rfl ?_
          (refine a9 rfl fun K0 V => ?_; simp only [zE, op1, ev, lkp, ag, af, ev, reduceCtorEq, E, D, G, U, J, M, Tryd.td3, Mpr.av]; refine V _ ?_; clear V K0; simp only [put, app, Z, ae, zE, zS, D])
          refine ah ?_
          refine hK41 _ ?_; clear hK41; refine ad [1, 2, 4, 5, 6, 11, 13, 14, 15, 16, 82] ?_; simp only [Y, lkp, zE, reduceCtorEq, E, a8, D]
          refine aa fun K42 hK42 => ?_
          refine aR ?_
          have hkw : k < w.length := by omega
          have hk0 := ew hp ⟨a5, a6⟩ hcn k (by omega)
          obtain ⟨hs1, hs2⟩ := hk0.rg
          have hfl := fq hk0 hkw
          obtain ⟨hrl, hql⟩ := hp.rli hk0.rg
          refine bH (fun n43 s43 => ∃ (c : Nat), (c ≤ (fcV p (cnP p (w.drop (k + 1))) (w.getD k 0) (p.rn p.st ((coW p p.st w).take k)).toNat)) ∧ n43 = p.inp.toNat + 1 - c ∧ s43 = { env := [(1, .one (.list (.int .i64) w)), (2, .one (.ptr 0 0 0 0)), (4, .one .nils), (5, .one (.bool false)), (6, .one (.int .i64 0)), (11, .one (.list (.list .bool) (csL p w (w.length + 1)))), (13, .one (.row 1 v)), (14, .one (.int .i64 (p.rn p.st ((coW p p.st w).take k)))), (15, .one (.int .i64 (k : Int))), (16, .one (.int .i64 (c : Int)))], L := [.vars 24 [.int .i64 p.inp, .int .i64 p.ab, .int .i64 p.st, .list (.list (.int .i64)) p.nx, .list (.list (.int .i64)) p.sy], .row (.int .i64) 3 v ((coW p p.st w).take k)] }) ?_ ?_
          ·exact ⟨_, _, aT [1, 2, 4, 5, 6, 11, 13, 14, 15, 16], 0, Nat.zero_le _, rfl, rfl⟩
          ·rintro n43 s43 ⟨c, hc, rfl, rfl⟩
           refine aa fun K44 hK44 => ?_
           refine aa fun K45 hK45 => ?_
           have hkw : k < w.length := by omega
           have hk0 := ew hp ⟨a5, a6⟩ hcn k (by omega)
           obtain ⟨hs1, hs2⟩ := hk0.rg
           have hfl := fq hk0 hkw
           obtain ⟨hrl, hql⟩ := hp.rli hk0.rg
           have hci : (c : Int) < p.inp := by omega
           have hgi : gt (.list .bool) (csL p w (w.length + 1)) ((w.length : Int) - 1 - (k : Int)) = cnP p (w.drop (k + 1)) := by unfold gt; rw [show ((w.length : Int) - 1 - (k : Int)).toNat = w.length - 1 - k by omega, kT (by omega), show w.length - (w.length - 1 - k) = k + 1 by omega]
           have hix : ((w.length : Int) - 1 - (k : Int)).toNat = w.length - 1 - k := by omega
           have hcl := jt p w (w.length + 1)
           have hcl2 := dw p (w.drop (k + 1))
           have hct : 0 ≤ p.tx (p.rn p.st ((coW p p.st w).take k)) c ∧ p.tx (p.rn p.st ((coW p p.st w).take k)) c < p.nx.length := hp.tx hk0.rg ⟨by omega, hci⟩
           unfold Mpr.tx at hct
           rw [Int.toNat_natCast] at hct
           refine bW hP hN Tryd.mixed rfl ?_
           iterate 13 (refine a9 rfl fun K0 V => ?_; simp only [zE, op1, ev, lkp, ag, af, am, az, Nat.mul_one, au, ay, acs, Ty.dflt, zG, ao, aG, Ty.size, ne_eq, not_false_eq_true, Int.natCast_one, Int.mul_one, aD, aC, aB, ak, aA, aP, reduceCtorEq, E, D, G, U, J, M, Tryd.el22, Tryd.el25, Tryd.st24, Tryd.td22, Tryd.td24, Tryd.td25, Tryd.td3, Tryd.td4, Mpr.av, hgi, hix, Int.toNat_natCast]; (repeat refine And.intro (by first | omega | assumption | exact rfl) ?_); refine V _ ?_; clear V K0; simp only [put, app, Z, ae, zE, zS, D])
           (refine a9 rfl fun K0 V => ?_; simp only [zE, op1, ev, lkp, ag, af, ev, reduceCtorEq, E, D, G, U, J, M, Tryd.td4, Mpr.av, hgi, hix, Int.toNat_natCast]; refine V _ ?_; clear V K0; simp only [put, app, Z, ae, zE, zS, D])
           refine' aX (want := false) 19 rfl (m := 98) (by simp only [Y, lkp, zE, reduceCtorEq, E, a8, D]; exact rfl) (by kernel_rfl) rfl rfl rfl rfl rfl (fun hg46 => ?a46) ?b46 ?c46
           case a46 =>
            have hq46 := hg46; (try simp only [zB, reduceCtorEq] at hg46); simp only [List.take_succ_cons, List.take_zero, List.cons_append, List.nil_append]
            (refine aq rfl fun K0 V => ?_; simp only [zE, op1, ev, lkp, ag, af, ev, reduceCtorEq, E, D, G, U, J, M, Tryd.el78, Tryd.td78, Mpr.av, hgi, hix, Int.toNat_natCast]; refine V _ ?_; clear V K0; simp only [put, app, Z, ae, zE, zS, D])
            (refine aq rfl fun K0 V => ?_; simp only [zE, op1, ev, lkp, ag, af, ev, reduceCtorEq, E, D, G, U, J, M, Tryd.el25, Tryd.td25, Mpr.av, hgi, hix, Int.toNat_natCast]; refine V _ ?_; clear V K0; simp only [put, app, Z, ae, zE, zS, D])
            (refine aq rfl fun K0 V => ?_; simp only [zE, op1, ev, lkp, ag, af, aF, bz, bi, ba, bc, bv, Nat.div_one, aK, bg, Ty.size, aI, dite_true, reduceCtorEq, E, D, G, U, J, M, Tryd.el25, Tryd.td25, Tryd.td3, Mpr.av, hgi, hix, Int.toNat_natCast]; (repeat refine And.intro (by first | omega | assumption | exact rfl) ?_); (first | refine V _ ?_ | refine Or.inl (V _ ?_)); clear V K0; simp only [put, app, Z, ae, zE, zS, D])
            (refine aq rfl fun K0 V => ?_; simp only [zE, op1, ev, lkp, ag, af, aD, aC, aB, ak, aA, aP, reduceCtorEq, E, D, G, U, J, M, Tryd.td3, Mpr.av, hgi, hix, Int.toNat_natCast]; (repeat refine And.intro (by first | omega | assumption | exact rfl) ?_); refine V _ ?_; clear V K0; simp only [put, app, Z, ae, zE, zS, D])
            (refine aq rfl fun K0 V => ?_; simp only [zE, op1, ev, lkp, ag, af, ev, reduceCtorEq, E, D, G, U, J, M, Tryd.td3, Mpr.av, hgi, hix, Int.toNat_natCast]; refine V _ ?_; clear V K0; simp only [put, app, Z, ae, zE, zS, D])
            (refine aq rfl fun K0 V => ?_; simp only [zE, op1, ev, lkp, ag, af, aD, aC, aB, ak, aA, aP, reduceCtorEq, E, D, G, U, J, M, Tryd.td3, Mpr.av, hgi, hix, Int.toNat_natCast]; (repeat refine And.intro (by first | omega | assumption | exact rfl) ?_); refine V _ ?_; clear V K0; simp only [put, app, Z, ae, zE, zS, D])
            (refine aq rfl fun K0 V => ?_; simp only [zE, op1, ev, lkp, ag, af, aG, zG, Ty.dflt, Ty.size, Nat.mul_one, ne_eq, not_false_eq_true, Int.natCast_one, Int.mul_one, reduceCtorEq, E, D, G, U, J, M, Tryd.el78, Tryd.td78, Mpr.av, hgi, hix, Int.toNat_natCast]; (repeat refine And.intro (by first | omega | assumption | exact rfl) ?_); refine V _ ?_; clear V K0; simp only [put, app, Z, ae, zE, zS, D])
            (refine aq rfl fun K0 V => ?_; simp only [zE, op1, ev, lkp, ag, af, az, Nat.mul_one, au, ay, acs, Ty.dflt, zG, ao, reduceCtorEq, E, D, G, U, J, M, Tryd.el75, Tryd.td75, Mpr.av, hgi, hix, Int.toNat_natCast]; (repeat refine And.intro (by first | omega | assumption | exact rfl) ?_); refine V _ ?_; clear V K0; simp only [put, app, Z, ae, zE, zS, D])
            (refine aq rfl fun K0 V => ?_; simp only [zE, op1, ev, lkp, ag, af, am, reduceCtorEq, E, D, G, U, J, M, Tryd.st24, Tryd.td24, Tryd.td3, Mpr.av, hgi, hix, Int.toNat_natCast]; (repeat refine And.intro (by first | omega | assumption | exact rfl) ?_); refine V _ ?_; clear V K0; simp only [put, app, Z, ae, zE, zS, D])
            (refine aq rfl fun K0 V => ?_; simp only [zE, op1, ev, lkp, ag, af, az, Nat.mul_one, au, ay, acs, Ty.dflt, zG, ao, reduceCtorEq, E, D, G, U, J, M, Tryd.el22, Tryd.td22, Mpr.av, hgi, hix, Int.toNat_natCast]; (repeat refine And.intro (by first | omega | assumption | exact rfl) ?_); refine V _ ?_; clear V K0; simp only [put, app, Z, ae, zE, zS, D])
            (refine aq rfl fun K0 V => ?_; simp only [zE, op1, ev, lkp, ag, af, ev, reduceCtorEq, E, D, G, U, J, M, Tryd.td3, Mpr.av, hgi, hix, Int.toNat_natCast]; refine V _ ?_; clear V K0; simp only [put, app, Z, ae, zE, zS, D])
            (refine aq rfl fun K0 V => ?_; simp only [zE, op1, ev, lkp, ag, af, aG, zG, Ty.dflt, Ty.size, Nat.mul_one, ne_eq, not_false_eq_true, Int.natCast_one, Int.mul_one, reduceCtorEq, E, D, G, U, J, M, Tryd.el22, Tryd.td22, Mpr.av, hgi, hix, Int.toNat_natCast]; (repeat refine And.intro (by first | omega | assumption | exact rfl) ?_); refine V _ ?_; clear V K0; simp only [put, app, Z, ae, zE, zS, D])
            (refine aq rfl fun K0 V => ?_; simp only [zE, op1, ev, lkp, ag, af, az, Nat.mul_one, au, ay, acs, Ty.dflt, zG, ao, reduceCtorEq, E, D, G, U, J, M, Tryd.el25, Tryd.td25, Mpr.av, hgi, hix, Int.toNat_natCast]; (repeat refine And.intro (by first | omega | assumption | exact rfl) ?_); refine V _ ?_; clear V K0; simp only [put, app, Z, ae, zE, zS, D])
            (refine aq rfl fun K0 V => ?_; simp only [zE, op1, ev, lkp, ag, af, ev, reduceCtorEq, E, D, G, U, J, M, Tryd.td3, Mpr.av, hgi, hix, Int.toNat_natCast]; refine V _ ?_; clear V K0; simp only [put, app, Z, ae, zE, zS, D])
            (refine aq rfl fun K0 V => ?_; simp only [zE, op1, ev, lkp, ag, af, aG, zG, Ty.dflt, Ty.size, Nat.mul_one, ne_eq, not_false_eq_true, Int.natCast_one, Int.mul_one, reduceCtorEq, E, D, G, U, J, M, Tryd.el25, Tryd.td25, Mpr.av, hgi, hix, Int.toNat_natCast]; (repeat refine And.intro (by first | omega | assumption | exact rfl) ?_); refine V _ ?_; clear V K0; simp only [put, app, Z, ae, zE, zS, D])
            (refine aq rfl fun K0 V => ?_; simp only [zE, op1, ev, lkp, ag, af, az, Nat.mul_one, au, ay, acs, Ty.dflt, zG, ao, reduceCtorEq, E, D, G, U, J, M, Tryd.td3, Mpr.av, hgi, hix, Int.toNat_natCast]; (repeat refine And.intro (by first | omega | assumption | exact rfl) ?_); refine V _ ?_; clear V K0; simp only [put, app, Z, ae, zE, zS, D])
            (refine aq rfl fun K0 V => ?_; simp only [zE, op1, ev, lkp, ag, af, aG, zG, Ty.dflt, Ty.size, Nat.mul_one, ne_eq, not_false_eq_true, Int.natCast_one, Int.mul_one, reduceCtorEq, E, D, G, U, J, M, Tryd.el75, Tryd.td75, Mpr.av, hgi, hix, Int.toNat_natCast]; (repeat refine And.intro (by first | omega | assumption | exact rfl) ?_); refine V _ ?_; clear V K0; simp only [put, app, Z, ae, zE, zS, D])
            (refine aq rfl fun K0 V => ?_; simp only [zE, op1, ev, lkp, ag, af, az, Nat.mul_one, au, ay, acs, Ty.dflt, zG, ao, reduceCtorEq, E, D, G, U, J, M, Tryd.td4, Mpr.av, hgi, hix, Int.toNat_natCast]; (repeat refine And.intro (by first | omega | assumption | exact rfl) ?_); refine V _ ?_; clear V K0; simp only [put, app, Z, ae, zE, zS, D])
            (refine aq rfl fun K0 V => ?_; simp only [zE, op1, ev, lkp, ag, af, dW, reduceCtorEq, E, D, G, U, J, M, Tryd.td4, Mpr.av, hgi, hix, Int.toNat_natCast]; (repeat refine And.intro (by first | omega | assumption | exact rfl) ?_); refine V _ ?_; clear V K0; simp only [put, app, Z, ae, zE, zS, D])
            (refine a9 rfl fun K0 V => ?_; simp only [zE, op1, ev, lkp, ag, af, bp, reduceCtorEq, E, D, G, U, J, M, Tryd.td4, Mpr.av, hgi, hix, Int.toNat_natCast]; refine V _ ?_; clear V K0; simp only [put, app, Z, ae, zE, zS, D])
            refine ah ?_
            refine ⟨by simp only [Y, lkp, zE, reduceCtorEq, E, a8, D]; exact rfl, rfl, ?_, rfl⟩; (repeat refine aW rfl ?_); exact bt (by exact rfl) hq46
           case b46 => exact br (by first | rfl | (simp [bS]; done) | decide)
           simp only [bh, b8]
           refine ah ?_
           refine ⟨by kernel_rfl, ?_⟩
           refine hK45 _ ?_; clear hK45; refine ad [1, 2, 4, 5, 6, 11, 13, 14, 15, 16, 118] ?_; simp only [Y, lkp, zE, reduceCtorEq, E, a8, D]
           refine aE (by simp only [ev, Y, lkp, zE, reduceCtorEq, E, a8, D]; exact rfl) (fun hc47 => ?_) (fun hc47 => ?_)
           ·(try simp only [zB, reduceCtorEq] at hc47)
            have hlt : c < (fcV p (cnP p (w.drop (k + 1))) (w.getD k 0) (p.rn p.st ((coW p p.st w).take k)).toNat) := (m5 hfl hc).2 (by unfold fcP; have h9 := hc47; rw [Bool.and_eq_false_iff, decide_eq_false_iff_not]; simpa using h9)
            refine aH ?_
            refine hK44 _ ?_; clear hK44; refine ad [1, 2, 4, 5, 6, 11, 13, 14, 15, 16, 118] ?_; simp only [Y, lkp, zE, reduceCtorEq, E, a8, D]
            refine aR ?_
            refine ai hP hN rfl ?_
            iterate 3 (refine a9 rfl fun K0 V => ?_; simp only [zE, op1, ev, lkp, ag, af, aD, aC, aB, ak, aA, aP, reduceCtorEq, E, D, G, U, J, M, Tryd.td3, Mpr.av]; (repeat refine And.intro (by first | omega | assumption | exact rfl) ?_); refine V _ ?_; clear V K0; simp only [put, app, Z, ae, zE, zS, D])
            refine ah ?_
            refine ⟨_, _, ?_, aT [1, 2, 4, 5, 6, 11, 13, 14, 15, 16], c + 1, by omega, rfl, rfl⟩
            omega
           ·(try simp only [zB, reduceCtorEq] at hc47)
            have hce : c = (fcV p (cnP p (w.drop (k + 1))) (w.getD k 0) (p.rn p.st ((coW p p.st w).take k)).toNat) := (m5 hfl hc).1 (by unfold fcP; have h9 := hc47; rw [Bool.and_eq_true, decide_eq_true_eq]; simpa using h9)
            refine bG ?_
            refine hK42 _ ?_; clear hK42; refine ad [1, 2, 4, 5, 6, 11, 13, 14, 15, 16, 118] ?_; simp only [Y, lkp, zE, reduceCtorEq, E, a8, D]
            refine aa fun K48 hK48 => ?_
            have hkw : k < w.length := by omega
            have hk0 := ew hp ⟨a5, a6⟩ hcn k (by omega)
            obtain ⟨hs1, hs2⟩ := hk0.rg
            have hfl := fq hk0 hkw
            obtain ⟨hrl, hql⟩ := hp.rli hk0.rg
            have hci : (c : Int) < p.inp := by omega
            have hol : ((coW p p.st w).take k).length = k := by rw [List.length_take, cZ]; omega
            refine ai hP hN rfl ?_
            iterate 5 (refine a9 rfl fun K0 V => ?_; simp only [zE, op1, ev, lkp, ag, af, aZ, bj, bM, rep, aI, aS, ar, Ty.size, aF, bz, bi, ba, bc, bv, Nat.div_one, aK, bg, dite_true, reduceCtorEq, E, D, G, U, J, M, Tryd.el25, Tryd.td1, Tryd.td25, Tryd.td3, Mpr.av, hol]; (repeat refine And.intro (by first | omega | assumption | exact rfl) ?_); (first | refine V _ ?_ | refine Or.inl (V _ ?_)); clear V K0; simp only [put, app, Z, ae, zE, zS, D])
            refine ah ?_
            refine hK48 _ ?_; clear hK48; refine ad [1, 2, 4, 5, 6, 11, 13, 14, 15, 16, 118] ?_; simp only [Y, lkp, zE, reduceCtorEq, E, a8, D]
            have hkw : k < w.length := by omega
            have hk0 := ew hp ⟨a5, a6⟩ hcn k (by omega)
            obtain ⟨hs1, hs2⟩ := hk0.rg
            have hfl := fq hk0 hkw
            obtain ⟨hrl, hql⟩ := hp.rli hk0.rg
            have hci : (c : Int) < p.inp := by omega
            refine ai hP hN rfl ?_
            iterate 9 (refine a9 rfl fun K0 V => ?_; simp only [zE, op1, ev, lkp, ag, af, am, az, Nat.mul_one, au, ay, acs, Ty.dflt, zG, ao, aG, Ty.size, ne_eq, not_false_eq_true, Int.natCast_one, Int.mul_one, reduceCtorEq, E, D, G, U, J, M, Tryd.el22, Tryd.el25, Tryd.st24, Tryd.td22, Tryd.td24, Tryd.td25, Tryd.td3, Mpr.av, Int.toNat_natCast]; (repeat refine And.intro (by first | omega | assumption | exact rfl) ?_); refine V _ ?_; clear V K0; simp only [put, app, Z, ae, zE, zS, D])
            refine ah ?_
            refine hK40 _ ?_; clear hK40; refine ad [1, 2, 4, 5, 6, 11, 13, 14, 15, 16, 118] ?_; simp only [Y, lkp, zE, reduceCtorEq, E, a8, D]
            refine ai hP hN rfl ?_
            iterate 3 (refine a9 rfl fun K0 V => ?_; simp only [zE, op1, ev, lkp, ag, af, aD, aC, aB, ak, aA, aP, reduceCtorEq, E, D, G, U, J, M, Tryd.td3, Mpr.av]; (repeat refine And.intro (by first | omega | assumption | exact rfl) ?_); refine V _ ?_; clear V K0; simp only [put, app, Z, ae, zE, zS, D])
            refine ah ?_
            refine ⟨_, _, ?_, aT [1, 2, 4, 5, 6, 11, 13, 14, 15], k + 1, v + 1, by omega, rfl, ?_⟩
            · omega
            · rw [fb (by rw [cZ]; omega), da 0 (by rw [cZ]; omega), kO hkw, hce]; unfold Mpr.tx; rw [Int.toNat_natCast]; rfl
         ·(try simp only [zB, reduceCtorEq] at hc39)
          refine bG ?_
          refine hK34 _ ?_; clear hK34; refine ad [1, 2, 4, 5, 6, 11, 13, 14, 15, 82] ?_; simp only [Y, lkp, zE, reduceCtorEq, E, a8, D]
          refine aa fun K49 hK49 => ?_
          refine bY 1 rfl ?_; simp only [List.map_cons, List.map_nil, zS, E, and_self, and_true, true_and, and_false, false_and, if_true, if_false, eq_self, reduceCtorEq, Nat.one_ne_zero, Nat.zero_ne_one]
          have hkw : k = w.length := by omega
          rw [hkw, List.take_of_length_le (by rw [cZ]; exact Nat.le_refl _)]
          refine ai hP hN rfl ?_
          iterate 4 (refine a9 rfl fun K0 V => ?_; simp only [zE, op1, ev, lkp, ag, af, ev, reduceCtorEq, E, D, G, U, J, M, Tryd.el25, Tryd.td25, Tryd.td3, Tryd.td4, Mpr.av]; refine V _ ?_; clear V K0; simp only [put, app, Z, ae, zE, zS, D])
          refine ah ?_
          refine hK49 _ ?_; clear hK49; refine ad [1, 2, 4, 5, 6, 11, 13, 14, 15, 82] ?_; simp only [Y, lkp, zE, reduceCtorEq, E, a8, D]
          refine aL ?_
          refine ⟨by first | exact .inl rfl | exact .inr rfl, _, rfl, ?_⟩; simp only [fzV, fz1, fzC, List.map_cons, List.map_nil, Y, lkp, zE, reduceCtorEq, E, a8, D, Mpr.av]
          first
          | (have g9 := iy (w := w) (by assumption); obtain ⟨g1, g2, g3⟩ := g9; rw [g1, g2, g3]; exact bf ⟨aQ (aJ rfl), fun _ _ _ _ _ h => h, fun _ _ _ _ _ h => h, trivial⟩)
          | (have g9 := ip hv (w := w) (by assumption); obtain ⟨g1, g2, g3⟩ := g9; rw [g1, g2, g3]; exact bf ⟨aQ (aJ rfl), fun _ _ _ _ _ h => h, fun _ _ _ _ _ h => h, trivial⟩)
          | (have g9 := cX hv (w := w) (by omega); obtain ⟨g1, g2, g3⟩ := g9; rw [hcn] at g2 g3; rw [g1, g2, g3]; exact bf ⟨aQ (aJ rfl), fun _ _ _ _ _ h => h, fun _ _ _ _ _ h => h, trivial⟩)
          | (have g9 := cX hv (w := w) (by omega); obtain ⟨g1, g2, g3⟩ := g9; rw [hcn] at g2 g3; rw [g1, g2, g3]; exact VLE.of_eq (by simp))
end Go.Proofs.YtgmgnkmgofkfpaaDoor
namespace Go.Proofs.YtgmgnkmgofkfpaaDoor
open Go Go.AV
open Nat renaming reduceEqDiff → E, reduceAdd → D, reduceLeDiff → G, reduceLT → U, reduceMul → J, reduceSub → M
open List renaming set_cons_zero → ax, set_cons_succ → aw
set_option maxRecDepth 100000 in
theorem mf (p : Mpr) : cd Tryd.prog 15 [p.av] (.one (.bool ((decide ((p.nx.length : Int) ≤ 10) && decide ((p.sy.length : Int) ≤ 10)) && decide (p.inp ≤ 6)))) := by
 refine bn Tryd.func15 rfl (by kernel_rfl) (Nat.le_of_ble_eq_true rfl) rfl fun C hP hN hB => ?_
 replace hN : C.N = 18 := hN
 simp only [a8, D]
 refine aa fun K1 hK1 => ?_
 refine ai hP hN rfl ?_
 iterate 2 (refine a9 rfl fun K0 V => ?_; simp only [zE, op1, ev, lkp, ag, af, cB, ar, reduceCtorEq, E, D, G, U, J, M, Tryd.st24, Tryd.td24, Tryd.td4, Mpr.av]; (repeat refine And.intro (by first | omega | assumption | exact rfl) ?_); refine V _ ?_; clear V K0; simp only [put, app, Z, ae, zE, zS, D])
 refine ah ?_
 refine hK1 _ ?_; clear hK1; refine ad [0, 1, 2] ?_; simp only [Y, lkp, zE, reduceCtorEq, E, a8, D]
 refine aa fun K2 hK2 => ?_
 refine ai hP hN rfl ?_
 iterate 4 (refine a9 rfl fun K0 V => ?_; simp only [zE, op1, ev, lkp, ag, af, am, az, Nat.mul_one, au, ay, acs, Ty.dflt, zG, ao, aF, bz, bi, ba, bc, bv, Nat.div_one, aK, bg, Ty.size, aI, dite_true, aD, aC, aB, ak, aA, aP, reduceCtorEq, E, D, G, U, J, M, Tryd.el22, Tryd.st24, Tryd.td22, Tryd.td24, Tryd.td3, Tryd.td4, Mpr.av]; (repeat refine And.intro (by first | omega | assumption | exact rfl) ?_); (first | refine V _ ?_ | refine Or.inl (V _ ?_)); clear V K0; simp only [put, app, Z, ae, zE, zS, D])
 (refine a9 rfl fun K0 V => ?_; simp only [zE, op1, ev, lkp, ag, af, ev, reduceCtorEq, E, D, G, U, J, M, Tryd.td4, Mpr.av]; refine V _ ?_; clear V K0; simp only [put, app, Z, ae, zE, zS, D])
 refine' aX (want := true) 4 rfl (m := 7) (by simp only [Y, lkp, zE, reduceCtorEq, E, a8, D]; exact rfl) (by kernel_rfl) rfl rfl rfl rfl rfl (fun hg3 => ?a3) ?b3 ?c3
 case a3 =>
  have hq3 := hg3; (try simp only [zB, reduceCtorEq] at hg3); simp only [List.take_succ_cons, List.take_zero, List.cons_append, List.nil_append]
  (refine aq rfl fun K0 V => ?_; simp only [zE, op1, ev, lkp, ag, af, am, reduceCtorEq, E, D, G, U, J, M, Tryd.st24, Tryd.td24, Tryd.td4, Mpr.av]; (repeat refine And.intro (by first | omega | assumption | exact rfl) ?_); refine V _ ?_; clear V K0; simp only [put, app, Z, ae, zE, zS, D])
  (refine aq rfl fun K0 V => ?_; simp only [zE, op1, ev, lkp, ag, af, az, Nat.mul_one, au, ay, acs, Ty.dflt, zG, ao, reduceCtorEq, E, D, G, U, J, M, Tryd.el22, Tryd.td22, Mpr.av]; (repeat refine And.intro (by first | omega | assumption | exact rfl) ?_); refine V _ ?_; clear V K0; simp only [put, app, Z, ae, zE, zS, D])
  (refine aq rfl fun K0 V => ?_; simp only [zE, op1, ev, lkp, ag, af, aF, bz, bi, ba, bc, bv, Nat.div_one, aK, bg, Ty.size, aI, dite_true, reduceCtorEq, E, D, G, U, J, M, Tryd.el22, Tryd.td22, Tryd.td3, Mpr.av]; (repeat refine And.intro (by first | omega | assumption | exact rfl) ?_); (first | refine V _ ?_ | refine Or.inl (V _ ?_)); clear V K0; simp only [put, app, Z, ae, zE, zS, D])
  (refine aq rfl fun K0 V => ?_; simp only [zE, op1, ev, lkp, ag, af, aD, aC, aB, ak, aA, aP, reduceCtorEq, E, D, G, U, J, M, Tryd.td3, Tryd.td4, Mpr.av]; (repeat refine And.intro (by first | omega | assumption | exact rfl) ?_); refine V _ ?_; clear V K0; simp only [put, app, Z, ae, zE, zS, D])
  (refine a9 rfl fun K0 V => ?_; simp only [zE, op1, ev, lkp, ag, af, bp, reduceCtorEq, E, D, G, U, J, M, Tryd.td4, Mpr.av]; refine V _ ?_; clear V K0; simp only [put, app, Z, ae, zE, zS, D])
  refine ah ?_
  refine ⟨by simp only [Y, lkp, zE, reduceCtorEq, E, a8, D]; exact rfl, rfl, ?_, rfl⟩; (repeat refine aW rfl ?_); exact bt (by exact rfl) hq3
 case b3 => exact br (by first | rfl | (simp [bS]; done) | decide)
 simp only [bh, b8]
 (refine a9 rfl fun K0 V => ?_; simp only [zE, op1, ev, lkp, ag, af, ev, reduceCtorEq, E, D, G, U, J, M, Tryd.td4, Mpr.av]; refine V _ ?_; clear V K0; simp only [put, app, Z, ae, zE, zS, D])
 refine' aX (want := true) 3 rfl (m := 13) (by simp only [Y, lkp, zE, reduceCtorEq, E, a8, D]; exact rfl) (by kernel_rfl) rfl rfl rfl rfl rfl (fun hg4 => ?a4) ?b4 ?c4
 case a4 =>
  have hq4 := hg4; (try simp only [zB, reduceCtorEq] at hg4); simp only [List.take_succ_cons, List.take_zero, List.cons_append, List.nil_append]
  (refine aq rfl fun K0 V => ?_; simp only [zE, op1, ev, lkp, ag, af, am, reduceCtorEq, E, D, G, U, J, M, Tryd.st24, Tryd.td24, Mpr.av]; (repeat refine And.intro (by first | omega | assumption | exact rfl) ?_); refine V _ ?_; clear V K0; simp only [put, app, Z, ae, zE, zS, D])
  (refine aq rfl fun K0 V => ?_; simp only [zE, op1, ev, lkp, ag, af, az, Nat.mul_one, au, ay, acs, Ty.dflt, zG, ao, reduceCtorEq, E, D, G, U, J, M, Tryd.td3, Mpr.av]; (repeat refine And.intro (by first | omega | assumption | exact rfl) ?_); refine V _ ?_; clear V K0; simp only [put, app, Z, ae, zE, zS, D])
  (refine aq rfl fun K0 V => ?_; simp only [zE, op1, ev, lkp, ag, af, aD, aC, aB, ak, aA, aP, reduceCtorEq, E, D, G, U, J, M, Tryd.td3, Tryd.td4, Mpr.av]; (repeat refine And.intro (by first | omega | assumption | exact rfl) ?_); refine V _ ?_; clear V K0; simp only [put, app, Z, ae, zE, zS, D])
  (refine a9 rfl fun K0 V => ?_; simp only [zE, op1, ev, lkp, ag, af, bp, reduceCtorEq, E, D, G, U, J, M, Tryd.td4, Mpr.av]; refine V _ ?_; clear V K0; simp only [put, app, Z, ae, zE, zS, D])
  refine ah ?_
  refine ⟨by simp only [Y, lkp, zE, reduceCtorEq, E, a8, D]; exact rfl, rfl, ?_, rfl⟩; (repeat refine aW rfl ?_); exact bt (by exact rfl) hq4
 case b4 => exact br (by first | rfl | (simp [bS]; done) | decide)
 simp only [bh, b8]
 (refine a9 rfl fun K0 V => ?_; simp only [zE, op1, ev, lkp, ag, af, ev, reduceCtorEq, E, D, G, U, J, M, Tryd.td4, Mpr.av]; refine V _ ?_; clear V K0; simp only [put, app, Z, ae, zE, zS, D])
 refine ah ?_
 refine hK2 _ ?_; clear hK2; refine ad [0, 1, 2] ?_; simp only [Y, lkp, zE, reduceCtorEq, E, a8, D]
 refine aL ?_
 refine ⟨by first | exact .inl rfl | exact .inr rfl, _, rfl, ?_⟩; simp only [fzV, fz1, fzC, List.map_cons, List.map_nil, Y, lkp, zE, reduceCtorEq, E, a8, D, Mpr.av]
 refine VLE.of_eq ?_
 rfl
end Go.Proofs.YtgmgnkmgofkfpaaDoor
namespace Go.Proofs.YtgmgnkmgofkfpaaDoor
open Go Go.AV
open Nat renaming reduceEqDiff → E, reduceAdd → D, reduceLeDiff → G, reduceLT → U, reduceMul → J, reduceSub → M
open List renaming set_cons_zero → ax, set_cons_succ → aw
set_option maxRecDepth 100000 in
theorem pV (p : Mpr) (w : List Int) : cd Tryd.prog 4 [p.av, .one (.list (.int .i64) w)] (.one (.bool true)) := by
 refine bn Tryd.func4 rfl (by kernel_rfl) (Nat.le_of_ble_eq_true rfl) rfl fun C hP hN hB => ?_
 replace hN : C.N = 76 := hN
 simp only [a8, D]
 refine aa fun K1 hK1 => ?_
 refine ai hP hN rfl ?_
 iterate 2 (refine a9 rfl fun K0 V => ?_; simp only [zE, op1, ev, lkp, ag, af, cB, ar, reduceCtorEq, E, D, G, U, J, M, Tryd.st24, Tryd.td24, Tryd.td4, Mpr.av]; (repeat refine And.intro (by first | omega | assumption | exact rfl) ?_); refine V _ ?_; clear V K0; simp only [put, app, Z, ae, zE, zS, D])
 refine ah ?_
 refine hK1 _ ?_; clear hK1; refine ad [0, 1, 2, 4] ?_; simp only [Y, lkp, zE, reduceCtorEq, E, a8, D]
 refine aa fun K2 hK2 => ?_
 refine aa fun K3 hK3 => ?_
 refine ai hP hN rfl ?_
 (refine a9 rfl fun K0 V => ?_; simp only [zE, op1, ev, lkp, ag, af, az, Nat.mul_one, au, ay, acs, Ty.dflt, zG, ao, reduceCtorEq, E, D, G, U, J, M, Tryd.st24, Tryd.td24, Mpr.av]; (repeat refine And.intro (by first | omega | assumption | exact rfl) ?_); refine V _ ?_; clear V K0; simp only [put, app, Z, ae, zE, zS, D])
 refine a9 rfl fun K0 V => ?_
 refine aY (h := aM (mf p)) rfl rfl (by first | exact rfl | (simp only [ev, Y, lkp, zE, reduceCtorEq, E, a8, D]; exact rfl)) (by simp only [zE, zG, op1, ev, lkp, ag, af, ar, acs, bl, mv1, mvC, Ty.dflt, reduceCtorEq, E, D, G, U, J, M, Mpr.av]) ?_
 refine V _ ?_; clear V K0; simp only [put, app, Z, ae, zE, zS, D]
 (refine a9 rfl fun K0 V => ?_; simp only [zE, op1, ev, lkp, ag, af, dW, reduceCtorEq, E, D, G, U, J, M, Tryd.td4, Mpr.av]; (repeat refine And.intro (by first | omega | assumption | exact rfl) ?_); refine V _ ?_; clear V K0; simp only [put, app, Z, ae, zE, zS, D])
 (refine a9 rfl fun K0 V => ?_; simp only [zE, op1, ev, lkp, ag, af, ev, reduceCtorEq, E, D, G, U, J, M, Tryd.td4, Mpr.av]; refine V _ ?_; clear V K0; simp only [put, app, Z, ae, zE, zS, D])
 refine' aX (want := false) 3 rfl (m := 18) (by simp only [Y, lkp, zE, reduceCtorEq, E, a8, D]; exact rfl) (by kernel_rfl) rfl rfl rfl rfl rfl (fun hg4 => ?a4) ?b4 ?c4
 case a4 =>
  have hq4 := hg4; (try simp only [zB, reduceCtorEq] at hg4); simp only [List.take_succ_cons, List.take_zero, List.cons_append, List.nil_append]
  (refine aq rfl fun K0 V => ?_; simp only [zE, op1, ev, lkp, ag, af, ev, reduceCtorEq, E, D, G, U, J, M, Tryd.el25, Tryd.td25, Mpr.av]; refine V _ ?_; clear V K0; simp only [put, app, Z, ae, zE, zS, D])
  (refine aq rfl fun K0 V => ?_; simp only [zE, op1, ev, lkp, ag, af, aF, bz, bi, ba, bc, bv, Nat.div_one, aK, bg, Ty.size, aI, dite_true, reduceCtorEq, E, D, G, U, J, M, Tryd.el25, Tryd.td25, Tryd.td3, Mpr.av]; (repeat refine And.intro (by first | omega | assumption | exact rfl) ?_); (first | refine V _ ?_ | refine Or.inl (V _ ?_)); clear V K0; simp only [put, app, Z, ae, zE, zS, D])
  (refine aq rfl fun K0 V => ?_; simp only [zE, op1, ev, lkp, ag, af, aD, aC, aB, ak, aA, aP, reduceCtorEq, E, D, G, U, J, M, Tryd.td3, Tryd.td4, Mpr.av]; (repeat refine And.intro (by first | omega | assumption | exact rfl) ?_); refine V _ ?_; clear V K0; simp only [put, app, Z, ae, zE, zS, D])
  (refine a9 rfl fun K0 V => ?_; simp only [zE, op1, ev, lkp, ag, af, bp, reduceCtorEq, E, D, G, U, J, M, Tryd.td4, Mpr.av]; refine V _ ?_; clear V K0; simp only [put, app, Z, ae, zE, zS, D])
  refine ah ?_
  refine ⟨by simp only [Y, lkp, zE, reduceCtorEq, E, a8, D]; exact rfl, rfl, ?_, rfl⟩; (repeat refine aW rfl ?_); exact bt (by exact rfl) hq4
 case b4 => exact br (by first | rfl | (simp [bS]; done) | decide)
 simp only [bh, b8]
 refine ah ?_
 refine hK3 _ ?_; clear hK3; refine ad [0, 1, 2, 4, 22] ?_; simp only [Y, lkp, zE, reduceCtorEq, E, a8, D]
 refine aE (by simp only [ev, Y, lkp, zE, reduceCtorEq, E, a8, D]; exact rfl) (fun hc5 => ?_) (fun hc5 => ?_)
 ·(try simp only [zB, reduceCtorEq] at hc5)
  refine aa fun K6 hK6 => ?_
  refine ai hP hN rfl ?_
  refine a9 rfl fun K0 V => ?_
  refine aY (h := aM jA) rfl rfl (by first | exact rfl | (simp only [ev, Y, lkp, zE, reduceCtorEq, E, a8, D]; exact rfl)) (by simp only [zE, zG, op1, ev, lkp, ag, af, ar, acs, bl, mv1, mvC, Ty.dflt, reduceCtorEq, E, D, G, U, J, M, Mpr.av]) ?_
  refine V _ ?_; clear V K0; simp only [put, app, Z, ae, zE, zS, D]
  (refine a9 rfl fun K0 V => ?_; simp only [zE, op1, ev, lkp, ag, af, ev, reduceCtorEq, E, D, G, U, J, M, Tryd.td4, Mpr.av]; refine V _ ?_; clear V K0; simp only [put, app, Z, ae, zE, zS, D])
  refine ah ?_
  refine hK6 _ ?_; clear hK6; refine ad [0, 1, 2, 4, 22] ?_; simp only [Y, lkp, zE, reduceCtorEq, E, a8, D]
  refine aL ?_
  refine ⟨by first | exact .inl rfl | exact .inr rfl, _, rfl, ?_⟩; simp only [fzV, fz1, fzC, List.map_cons, List.map_nil, Y, lkp, zE, reduceCtorEq, E, a8, D, Mpr.av]
  refine VLE.of_eq ?_
  first | rfl | (refine congrArg (fun b => AV.one (AC.bool b)) ?_; simp [dX, du]; done) | (refine congrArg (fun b => AV.one (AC.bool b)) ?_; simp_all [dX, du]; done)
 ·(try simp only [zB, reduceCtorEq] at hc5)
  refine aH ?_
  refine hK2 _ ?_; clear hK2; refine ad [0, 1, 2, 4, 22] ?_; simp only [Y, lkp, zE, reduceCtorEq, E, a8, D]
  refine aa fun K7 hK7 => ?_
  refine ai hP hN rfl ?_
  iterate 2 (refine a9 rfl fun K0 V => ?_; simp only [zE, op1, ev, lkp, ag, af, az, Nat.mul_one, au, ay, acs, Ty.dflt, zG, ao, reduceCtorEq, E, D, G, U, J, M, Tryd.el25, Tryd.st24, Tryd.td24, Tryd.td25, Mpr.av]; (repeat refine And.intro (by first | omega | assumption | exact rfl) ?_); refine V _ ?_; clear V K0; simp only [put, app, Z, ae, zE, zS, D])
  refine a9 rfl fun K0 V => ?_
  refine aY (h := aM (ne p w)) rfl rfl (by first | exact rfl | (simp only [ev, Y, lkp, zE, reduceCtorEq, E, a8, D]; exact rfl)) (by simp only [zE, zG, op1, ev, lkp, ag, af, ar, acs, bl, mv1, mvC, Ty.dflt, reduceCtorEq, E, D, G, U, J, M, Mpr.av]) ?_
  refine V _ ?_; clear V K0; simp only [put, app, Z, ae, zE, zS, D]
  iterate 5 (refine a9 rfl fun K0 V => ?_; simp only [zE, op1, ev, lkp, ag, af, bP, reduceCtorEq, E, D, G, U, J, M, Tryd.el25, Tryd.td1, Tryd.td25, Tryd.td26, Mpr.av]; refine V _ ?_; clear V K0; simp only [put, app, Z, ae, zE, zS, D])
  refine ah ?_
  refine hK7 _ ?_; clear hK7; refine ad [0, 1, 2, 4, 5, 6, 22] ?_; simp only [Y, lkp, zE, reduceCtorEq, E, a8, D]
  refine aa fun K8 hK8 => ?_
  refine ai hP hN rfl ?_
  iterate 2 (refine a9 rfl fun K0 V => ?_; simp only [zE, op1, ev, lkp, ag, af, az, Nat.mul_one, au, ay, acs, Ty.dflt, zG, ao, reduceCtorEq, E, D, G, U, J, M, Tryd.el25, Tryd.st24, Tryd.td24, Tryd.td25, Mpr.av]; (repeat refine And.intro (by first | omega | assumption | exact rfl) ?_); refine V _ ?_; clear V K0; simp only [put, app, Z, ae, zE, zS, D])
  refine a9 rfl fun K0 V => ?_
  refine aY (h := aM (pc p w)) rfl rfl (by first | exact rfl | (simp only [ev, Y, lkp, zE, reduceCtorEq, E, a8, D]; exact rfl)) (by simp only [zE, zG, op1, ev, lkp, ag, af, ar, acs, bl, mv1, mvC, Ty.dflt, reduceCtorEq, E, D, G, U, J, M, Mpr.av]) ?_
  refine V _ ?_; clear V K0; simp only [put, app, Z, ae, zE, zS, D]
  iterate 5 (refine a9 rfl fun K0 V => ?_; simp only [zE, op1, ev, lkp, ag, af, bP, reduceCtorEq, E, D, G, U, J, M, Tryd.el25, Tryd.td1, Tryd.td25, Tryd.td3, Mpr.av]; refine V _ ?_; clear V K0; simp only [put, app, Z, ae, zE, zS, D])
  refine ah ?_
  refine hK8 _ ?_; clear hK8; refine ad [0, 1, 2, 4, 5, 6, 7, 8, 22] ?_; simp only [Y, lkp, zE, reduceCtorEq, E, a8, D]
  refine aa fun K9 hK9 => ?_
  refine ai hP hN rfl ?_
  iterate 2 (refine a9 rfl fun K0 V => ?_; simp only [zE, op1, ev, lkp, ag, af, az, Nat.mul_one, au, ay, acs, Ty.dflt, zG, ao, reduceCtorEq, E, D, G, U, J, M, Tryd.el25, Tryd.st24, Tryd.td24, Tryd.td25, Mpr.av]; (repeat refine And.intro (by first | omega | assumption | exact rfl) ?_); refine V _ ?_; clear V K0; simp only [put, app, Z, ae, zE, zS, D])
  refine a9 rfl fun K0 V => ?_
  refine aY (h := aM (mO p w)) rfl rfl (by first | exact rfl | (simp only [ev, Y, lkp, zE, reduceCtorEq, E, a8, D]; exact rfl)) (by simp only [zE, zG, op1, ev, lkp, ag, af, ar, acs, bl, mv1, mvC, Ty.dflt, reduceCtorEq, E, D, G, U, J, M, Mpr.av]) ?_
  refine V _ ?_; clear V K0; simp only [put, app, Z, ae, zE, zS, D]
  iterate 7 (refine a9 rfl fun K0 V => ?_; simp only [zE, op1, ev, lkp, ag, af, bP, reduceCtorEq, E, D, G, U, J, M, Tryd.el25, Tryd.td1, Tryd.td2, Tryd.td25, Tryd.td26, Tryd.td4, Mpr.av]; refine V _ ?_; clear V K0; simp only [put, app, Z, ae, zE, zS, D])
  refine ah ?_
  refine hK9 _ ?_; clear hK9; refine ad [0, 1, 2, 4, 5, 6, 7, 8, 9, 10, 11, 22] ?_; simp only [Y, lkp, zE, reduceCtorEq, E, a8, D]
  refine aa fun K10 hK10 => ?_
  refine ai hP hN rfl ?_
  iterate 2 (refine a9 rfl fun K0 V => ?_; simp only [zE, op1, ev, lkp, ag, af, az, Nat.mul_one, au, ay, acs, Ty.dflt, zG, ao, reduceCtorEq, E, D, G, U, J, M, Tryd.el25, Tryd.st24, Tryd.td24, Tryd.td25, Mpr.av]; (repeat refine And.intro (by first | omega | assumption | exact rfl) ?_); refine V _ ?_; clear V K0; simp only [put, app, Z, ae, zE, zS, D])
  refine a9 rfl fun K0 V => ?_
  refine aY (h := aM (oU p w)) rfl rfl (by first | exact rfl | (simp only [ev, Y, lkp, zE, reduceCtorEq, E, a8, D]; exact rfl)) (by simp only [zE, zG, op1, ev, lkp, ag, af, ar, acs, bl, mv1, mvC, Ty.dflt, reduceCtorEq, E, D, G, U, J, M, Mpr.av]) ?_
  refine V _ ?_; clear V K0; simp only [put, app, Z, ae, zE, zS, D]
  iterate 7 (refine a9 rfl fun K0 V => ?_; simp only [zE, op1, ev, lkp, ag, af, bP, reduceCtorEq, E, D, G, U, J, M, Tryd.el25, Tryd.td1, Tryd.td2, Tryd.td25, Tryd.td3, Tryd.td4, Mpr.av]; refine V _ ?_; clear V K0; simp only [put, app, Z, ae, zE, zS, D])
  refine ah ?_
  refine hK10 _ ?_; clear hK10; refine ad [0, 1, 2, 4, 5, 6, 7, 8, 9, 10, 11, 12, 13, 14, 22] ?_; simp only [Y, lkp, zE, reduceCtorEq, E, a8, D]
  refine aa fun K11 hK11 => ?_
  refine ai hP hN rfl ?_
  iterate 2 (refine a9 rfl fun K0 V => ?_; simp only [zE, op1, ev, lkp, ag, af, ev, reduceCtorEq, E, D, G, U, J, M, Tryd.el25, Tryd.td25, Mpr.av]; refine V _ ?_; clear V K0; simp only [put, app, Z, ae, zE, zS, D])
  refine a9 rfl fun K0 V => ?_
  refine aY (h := aM (fA (abV p w) (abV p w))) rfl rfl (by first | exact rfl | (simp only [ev, Y, lkp, zE, reduceCtorEq, E, a8, D]; exact rfl)) (by simp only [zE, zG, op1, ev, lkp, ag, af, ar, acs, bl, mv1, mvC, Ty.dflt, reduceCtorEq, E, D, G, U, J, M, Mpr.av]) ?_
  refine V _ ?_; clear V K0; simp only [put, app, Z, ae, zE, zS, D]
  (refine a9 rfl fun K0 V => ?_; simp only [zE, op1, ev, lkp, ag, af, ev, reduceCtorEq, E, D, G, U, J, M, Tryd.td4, Mpr.av]; refine V _ ?_; clear V K0; simp only [put, app, Z, ae, zE, zS, D])
  refine' aX (want := true) 3 rfl (m := 53) (by simp only [Y, lkp, zE, reduceCtorEq, E, a8, D]; exact rfl) (by kernel_rfl) rfl rfl rfl rfl rfl (fun hg12 => ?a12) ?b12 ?c12
  case a12 =>
   have hq12 := hg12; (try simp only [zB, reduceCtorEq] at hg12); simp only [List.take_succ_cons, List.take_zero, List.cons_append, List.nil_append]
   (refine aq rfl fun K0 V => ?_; simp only [zE, op1, ev, lkp, ag, af, ev, reduceCtorEq, E, D, G, U, J, M, Tryd.td26, Mpr.av]; refine V _ ?_; clear V K0; simp only [put, app, Z, ae, zE, zS, D])
   (refine aq rfl fun K0 V => ?_; simp only [zE, op1, ev, lkp, ag, af, ev, reduceCtorEq, E, D, G, U, J, M, Tryd.td3, Mpr.av]; refine V _ ?_; clear V K0; simp only [put, app, Z, ae, zE, zS, D])
   (refine aq rfl fun K0 V => ?_; simp only [zE, op1, ev, lkp, ag, af, aD, aC, aB, ak, aA, aP, reduceCtorEq, E, D, G, U, J, M, Tryd.td3, Tryd.td4, Mpr.av]; (repeat refine And.intro (by first | omega | assumption | exact rfl) ?_); refine V _ ?_; clear V K0; simp only [put, app, Z, ae, zE, zS, D])
   (refine a9 rfl fun K0 V => ?_; simp only [zE, op1, ev, lkp, ag, af, bp, reduceCtorEq, E, D, G, U, J, M, Tryd.td4, Mpr.av]; refine V _ ?_; clear V K0; simp only [put, app, Z, ae, zE, zS, D])
   refine ah ?_
   refine ⟨by simp only [Y, lkp, zE, reduceCtorEq, E, a8, D]; exact rfl, rfl, ?_, rfl⟩; (repeat refine aW rfl ?_); exact bt (by exact rfl) hq12
  case b12 => exact br (by first | rfl | (simp [bS]; done) | decide)
  simp only [bh, b8]
  (refine a9 rfl fun K0 V => ?_; simp only [zE, op1, ev, lkp, ag, af, ev, reduceCtorEq, E, D, G, U, J, M, Tryd.td4, Mpr.av]; refine V _ ?_; clear V K0; simp only [put, app, Z, ae, zE, zS, D])
  refine' aX (want := true) 3 rfl (m := 58) (by simp only [Y, lkp, zE, reduceCtorEq, E, a8, D]; exact rfl) (by kernel_rfl) rfl rfl rfl rfl rfl (fun hg13 => ?a13) ?b13 ?c13
  case a13 =>
   have hq13 := hg13; (try simp only [zB, reduceCtorEq] at hg13); simp only [List.take_succ_cons, List.take_zero, List.cons_append, List.nil_append]
   (refine aq rfl fun K0 V => ?_; simp only [zE, op1, ev, lkp, ag, af, ev, reduceCtorEq, E, D, G, U, J, M, Tryd.el25, Tryd.td25, Mpr.av]; refine V _ ?_; clear V K0; simp only [put, app, Z, ae, zE, zS, D])
   (refine aq rfl fun K0 V => ?_; simp only [zE, op1, ev, lkp, ag, af, ev, reduceCtorEq, E, D, G, U, J, M, Tryd.el25, Tryd.td25, Mpr.av]; refine V _ ?_; clear V K0; simp only [put, app, Z, ae, zE, zS, D])
   refine aq rfl fun K0 V => ?_
   refine aY (h := aM (fA (pcW p w) (pcW p w))) rfl rfl (by first | exact rfl | (simp only [ev, Y, lkp, zE, reduceCtorEq, E, a8, D]; exact rfl)) (by simp only [zE, zG, op1, ev, lkp, ag, af, ar, acs, bl, mv1, mvC, Ty.dflt, reduceCtorEq, E, D, G, U, J, M, Mpr.av]) ?_
   refine V _ ?_; clear V K0; simp only [put, app, Z, ae, zE, zS, D]
   (refine a9 rfl fun K0 V => ?_; simp only [zE, op1, ev, lkp, ag, af, bp, reduceCtorEq, E, D, G, U, J, M, Tryd.td4, Mpr.av]; refine V _ ?_; clear V K0; simp only [put, app, Z, ae, zE, zS, D])
   refine ah ?_
   refine ⟨by simp only [Y, lkp, zE, reduceCtorEq, E, a8, D]; exact rfl, rfl, ?_, rfl⟩; (repeat refine aW rfl ?_); exact bt (by exact rfl) hq13
  case b13 => exact br (by first | rfl | (simp [bS]; done) | decide)
  simp only [bh, b8]
  (refine a9 rfl fun K0 V => ?_; simp only [zE, op1, ev, lkp, ag, af, ev, reduceCtorEq, E, D, G, U, J, M, Tryd.td4, Mpr.av]; refine V _ ?_; clear V K0; simp only [put, app, Z, ae, zE, zS, D])
  refine' aX (want := true) 3 rfl (m := 63) (by simp only [Y, lkp, zE, reduceCtorEq, E, a8, D]; exact rfl) (by kernel_rfl) rfl rfl rfl rfl rfl (fun hg14 => ?a14) ?b14 ?c14
  case a14 =>
   have hq14 := hg14; (try simp only [zB, reduceCtorEq] at hg14); simp only [List.take_succ_cons, List.take_zero, List.cons_append, List.nil_append]
   (refine aq rfl fun K0 V => ?_; simp only [zE, op1, ev, lkp, ag, af, ev, reduceCtorEq, E, D, G, U, J, M, Tryd.td4, Mpr.av]; refine V _ ?_; clear V K0; simp only [put, app, Z, ae, zE, zS, D])
   (refine aq rfl fun K0 V => ?_; simp only [zE, op1, ev, lkp, ag, af, ev, reduceCtorEq, E, D, G, U, J, M, Tryd.td4, Mpr.av]; refine V _ ?_; clear V K0; simp only [put, app, Z, ae, zE, zS, D])
   (refine aq rfl fun K0 V => ?_; simp only [zE, op1, ev, lkp, ag, af, aD, aC, aB, ak, aA, aP, reduceCtorEq, E, D, G, U, J, M, Tryd.td4, Mpr.av]; (repeat refine And.intro (by first | omega | assumption | exact rfl) ?_); refine V _ ?_; clear V K0; simp only [put, app, Z, ae, zE, zS, D])
   (refine a9 rfl fun K0 V => ?_; simp only [zE, op1, ev, lkp, ag, af, bp, reduceCtorEq, E, D, G, U, J, M, Tryd.td4, Mpr.av]; refine V _ ?_; clear V K0; simp only [put, app, Z, ae, zE, zS, D])
   refine ah ?_
   refine ⟨by simp only [Y, lkp, zE, reduceCtorEq, E, a8, D]; exact rfl, rfl, ?_, rfl⟩; (repeat refine aW rfl ?_); exact bt (by exact rfl) hq14
  case b14 => exact br (by first | rfl | (simp [bS]; done) | decide)
  simp only [bh, b8]
  (refine a9 rfl fun K0 V => ?_; simp only [zE, op1, ev, lkp, ag, af, ev, reduceCtorEq, E, D, G, U, J, M, Tryd.td4, Mpr.av]; refine V _ ?_; clear V K0; simp only [put, app, Z, ae, zE, zS, D])
  refine' aX (want := true) 3 rfl (m := 68) (by simp only [Y, lkp, zE, reduceCtorEq, E, a8, D]; exact rfl) (by kernel_rfl) rfl rfl rfl rfl rfl (fun hg15 => ?a15) ?b15 ?c15
  case a15 =>
   have hq15 := hg15; (try simp only [zB, reduceCtorEq] at hg15); simp only [List.take_succ_cons, List.take_zero, List.cons_append, List.nil_append]
   (refine aq rfl fun K0 V => ?_; simp only [zE, op1, ev, lkp, ag, af, ev, reduceCtorEq, E, D, G, U, J, M, Tryd.td26, Mpr.av]; refine V _ ?_; clear V K0; simp only [put, app, Z, ae, zE, zS, D])
   (refine aq rfl fun K0 V => ?_; simp only [zE, op1, ev, lkp, ag, af, ev, reduceCtorEq, E, D, G, U, J, M, Tryd.td3, Mpr.av]; refine V _ ?_; clear V K0; simp only [put, app, Z, ae, zE, zS, D])
   (refine aq rfl fun K0 V => ?_; simp only [zE, op1, ev, lkp, ag, af, aD, aC, aB, ak, aA, aP, reduceCtorEq, E, D, G, U, J, M, Tryd.td3, Tryd.td4, Mpr.av]; (repeat refine And.intro (by first | omega | assumption | exact rfl) ?_); refine V _ ?_; clear V K0; simp only [put, app, Z, ae, zE, zS, D])
   (refine a9 rfl fun K0 V => ?_; simp only [zE, op1, ev, lkp, ag, af, bp, reduceCtorEq, E, D, G, U, J, M, Tryd.td4, Mpr.av]; refine V _ ?_; clear V K0; simp only [put, app, Z, ae, zE, zS, D])
   refine ah ?_
   refine ⟨by simp only [Y, lkp, zE, reduceCtorEq, E, a8, D]; exact rfl, rfl, ?_, rfl⟩; (repeat refine aW rfl ?_); exact bt (by exact rfl) hq15
  case b15 => exact br (by first | rfl | (simp [bS]; done) | decide)
  simp only [bh, b8]
  (refine a9 rfl fun K0 V => ?_; simp only [zE, op1, ev, lkp, ag, af, ev, reduceCtorEq, E, D, G, U, J, M, Tryd.td4, Mpr.av]; refine V _ ?_; clear V K0; simp only [put, app, Z, ae, zE, zS, D])
  refine' aX (want := true) 1 rfl (m := 73) (by simp only [Y, lkp, zE, reduceCtorEq, E, a8, D]; exact rfl) (by kernel_rfl) rfl rfl rfl rfl rfl (fun hg16 => ?a16) ?b16 ?c16
  case a16 =>
   have hq16 := hg16; (try simp only [zB, reduceCtorEq] at hg16); simp only [List.take_succ_cons, List.take_zero, List.cons_append, List.nil_append]
   refine aq rfl fun K0 V => ?_
   refine aY (h := aM jA) rfl rfl (by first | exact rfl | (simp only [ev, Y, lkp, zE, reduceCtorEq, E, a8, D]; exact rfl)) (by simp only [zE, zG, op1, ev, lkp, ag, af, ar, acs, bl, mv1, mvC, Ty.dflt, reduceCtorEq, E, D, G, U, J, M, Mpr.av]) ?_
   refine V _ ?_; clear V K0; simp only [put, app, Z, ae, zE, zS, D]
   (refine a9 rfl fun K0 V => ?_; simp only [zE, op1, ev, lkp, ag, af, bp, reduceCtorEq, E, D, G, U, J, M, Tryd.td4, Mpr.av]; refine V _ ?_; clear V K0; simp only [put, app, Z, ae, zE, zS, D])
   refine ah ?_
   refine ⟨by simp only [Y, lkp, zE, reduceCtorEq, E, a8, D]; exact rfl, rfl, ?_, rfl⟩; (repeat refine aW rfl ?_); exact bt (by exact rfl) hq16
  case b16 => exact br (by first | rfl | (simp [bS]; done) | decide)
  simp only [bh, b8]
  (refine a9 rfl fun K0 V => ?_; simp only [zE, op1, ev, lkp, ag, af, ev, reduceCtorEq, E, D, G, U, J, M, Tryd.td4, Mpr.av]; refine V _ ?_; clear V K0; simp only [put, app, Z, ae, zE, zS, D])
  refine ah ?_
  refine hK11 _ ?_; clear hK11; refine ad [0, 1, 2, 4, 5, 6, 7, 8, 9, 10, 11, 12, 13, 14, 22] ?_; simp only [Y, lkp, zE, reduceCtorEq, E, a8, D]
  refine aL ?_
  refine ⟨by first | exact .inl rfl | exact .inr rfl, _, rfl, ?_⟩; simp only [fzV, fz1, fzC, List.map_cons, List.map_nil, Y, lkp, zE, reduceCtorEq, E, a8, D, Mpr.av]
  refine VLE.of_eq ?_
  first | rfl | (refine congrArg (fun b => AV.one (AC.bool b)) ?_; simp [dX, du]; done) | (refine congrArg (fun b => AV.one (AC.bool b)) ?_; simp_all [dX, du]; done)
end Go.Proofs.YtgmgnkmgofkfpaaDoor
