/- Contracts of functions of this seat, each out of a walk through its code, and plain facts on what they compute. Conditions: those that each theorem names. -/
import Derived.Test.YtdkgcbhbpdbmnaaW04
set_option linter.unusedSimpArgs false
set_option linter.unusedVariables false
namespace Go.Proofs.Ytdkgcbhbpdbmnaa
open Go Go.AV
open Nat renaming reduceEqDiff → E, reduceAdd → D, reduceLeDiff → J, reduceLT → U, reduceMul → O, reduceSub → S
open List renaming set_cons_zero → aq, set_cons_succ → am
set_option maxRecDepth 100000 in
theorem oL (d : Dfa) : bJ Try.prog 31 [d.av] (.tup [(toM d).av, .one (.int .i64 (toE d))]) := by
 refine aS Try.func31 rfl (by kernel_rfl) (Nat.le_of_ble_eq_true rfl) rfl fun C hP hN hB => ?_
 replace hN : C.N = 68 := hN
 simp only [Z, D]
 refine ab fun K1 hK1 => ?_
 refine ai hP hN rfl ?_
 iterate 3 (refine ad rfl fun K0 V => ?_; simp only [zE, op1, ev, lkp, ah, ag, c0, au, bQ, reduceCtorEq, E, D, J, U, O, S, Try.st25, Try.st58, Try.td25, Try.td29, Try.td58, Dfa.av, Mly.av]; (repeat refine And.intro (by first | omega | assumption | exact rfl) ?_); (first | refine V _ ?_ | refine Or.inl (V _ ?_)); clear V K0; simp only [put, app, aa, af, zE, zS, D])
 refine aj ?_
 refine hK1 _ ?_; clear hK1; refine ae [0, 1, 2, 3] ?_; simp only [Y, lkp, zE, reduceCtorEq, E, Z, D]
 refine ab fun K2 hK2 => ?_
 refine ab fun K3 hK3 => ?_
 refine ai hP hN rfl ?_
 (refine ad rfl fun K0 V => ?_; simp only [zE, op1, ev, lkp, ah, ag, az, Nat.mul_one, ax, ay, acs, Ty.dflt, zG, ao, reduceCtorEq, E, D, J, U, O, S, Try.st25, Try.td25, Dfa.av, Mly.av]; (repeat refine And.intro (by first | omega | assumption | exact rfl) ?_); refine V _ ?_; clear V K0; simp only [put, app, aa, af, zE, zS, D])
 refine ad rfl fun K0 V => ?_
 refine aW (h := aG (dt d)) rfl rfl (by first | exact rfl | (simp only [ev, Y, lkp, zE, reduceCtorEq, E, Z, D]; exact rfl)) (by simp only [zE, zG, op1, ev, lkp, ah, ag, au, acs, ba, mv1, mvC, Ty.dflt, reduceCtorEq, E, D, J, U, O, S, Dfa.av, Mly.av]) ?_
 refine V _ ?_; clear V K0; simp only [put, app, aa, af, zE, zS, D]
 (refine ad rfl fun K0 V => ?_; simp only [zE, op1, ev, lkp, ah, ag, ev, reduceCtorEq, E, D, J, U, O, S, Try.td29, Dfa.av, Mly.av]; refine V _ ?_; clear V K0; simp only [put, app, aa, af, zE, zS, D])
 refine aj ?_
 refine hK3 _ ?_; clear hK3; refine ae [0, 1, 2, 3, 4] ?_; simp only [Y, lkp, zE, reduceCtorEq, E, Z, D]
 refine ab fun K4 hK4 => ?_
 refine ai hP hN rfl ?_
 iterate 2 (refine ad rfl fun K0 V => ?_; simp only [zE, op1, ev, lkp, ah, ag, aE, aC, aD, ar, aB, aN, reduceCtorEq, E, D, J, U, O, S, Try.td29, Try.td4, Dfa.av, Mly.av]; (repeat refine And.intro (by first | omega | assumption | exact rfl) ?_); refine V _ ?_; clear V K0; simp only [put, app, aa, af, zE, zS, D])
 refine aj ?_
 refine hK4 _ ?_; clear hK4; refine ae [0, 1, 2, 3, 4, 15] ?_; simp only [Y, lkp, zE, reduceCtorEq, E, Z, D]
 refine aF (by simp only [ev, Y, lkp, zE, reduceCtorEq, E, Z, D]; exact rfl) (fun hc5 => ?_) (fun hc5 => ?_)
 ·(try simp only [zB, reduceCtorEq] at hc5)
  refine ab fun K6 hK6 => ?_
  refine ai hP hN rfl ?_
  iterate 4 (refine ad rfl fun K0 V => ?_; simp only [zE, op1, ev, lkp, ah, ag, bW, bh, aQ, au, bj, Nat.mul_one, aL, acs, Ty.size, Ty.dflt, zG, reduceCtorEq, E, D, J, U, O, S, Try.st58, Try.td29, Try.td58, Dfa.av, Mly.av]; (repeat refine And.intro (by first | omega | assumption | exact rfl) ?_); (first | refine V _ ?_ | refine Or.inl (V _ ?_)); clear V K0; simp only [put, app, aa, af, zE, zS, D])
  refine aj ?_
  refine hK6 _ ?_; clear hK6; refine ae [0, 1, 2, 3, 4, 15] ?_; simp only [Y, lkp, zE, reduceCtorEq, E, Z, D]
  refine aI ?_
  refine ⟨by first | exact .inl rfl | exact .inr rfl, _, rfl, ?_⟩; simp only [fzV, fz1, fzC, List.map_cons, List.map_nil, Y, lkp, zE, reduceCtorEq, E, Z, D, Dfa.av, Mly.av]
  first
  | (have g9 := rT (by assumption); obtain ⟨g1, g2⟩ := g9; rw [g1, g2]; exact bz ⟨bU ⟨.refl _, .refl _, aT rfl, aT rfl, trivial⟩, aR (.refl _), trivial⟩)
  | (have g9 := qY hv (by omega); obtain ⟨g1, g2⟩ := g9; rw [g1, g2]; exact bz ⟨bU ⟨.refl _, .refl _, aT rfl, aT rfl, trivial⟩, aR (.refl _), trivial⟩)
  | (have g9 := lw hv (by omega); obtain ⟨g1, g2⟩ := g9; rw [g1, g2]; exact VLE.of_eq rfl)
 ·(try simp only [zB, reduceCtorEq] at hc5)
  have hv : bo d = 0 := by omega
  have hd := ef hv; have a1 := hd.i1; have a2 := hd.i2; have a3 := hd.n1; have a4 := hd.n2; have a5 := hd.s1; have a6 := hd.s2; have a7 := hd.al
  refine aK ?_
  refine hK2 _ ?_; clear hK2; refine ae [0, 1, 2, 3, 4, 15] ?_; simp only [Y, lkp, zE, reduceCtorEq, E, Z, D]
  refine ab fun K7 hK7 => ?_
  refine ab fun K8 hK8 => ?_
  refine ai hP hN rfl ?_
  iterate 3 (refine ad rfl fun K0 V => ?_; simp only [zE, op1, ev, lkp, ah, ag, aw, az, Nat.mul_one, ax, ay, acs, Ty.dflt, zG, ao, aE, aC, aD, ar, aB, aN, reduceCtorEq, E, D, J, U, O, S, Try.st25, Try.td25, Try.td3, Try.td4, Dfa.av, Mly.av]; (repeat refine And.intro (by first | omega | assumption | exact rfl) ?_); refine V _ ?_; clear V K0; simp only [put, app, aa, af, zE, zS, D])
  refine aj ?_
  refine hK8 _ ?_; clear hK8; refine ae [0, 1, 2, 3, 4, 15, 20] ?_; simp only [Y, lkp, zE, reduceCtorEq, E, Z, D]
  refine aF (by simp only [ev, Y, lkp, zE, reduceCtorEq, E, Z, D]; exact rfl) (fun hc9 => ?_) (fun hc9 => ?_)
  ·(try simp only [zB, reduceCtorEq] at hc9)
   refine ab fun K10 hK10 => ?_
   refine ai hP hN rfl ?_
   iterate 3 (refine ad rfl fun K0 V => ?_; simp only [zE, op1, ev, lkp, ah, ag, bW, bh, aQ, au, bj, Nat.mul_one, aL, acs, Ty.size, Ty.dflt, zG, reduceCtorEq, E, D, J, U, O, S, Try.st58, Try.td29, Try.td58, Dfa.av, Mly.av]; (repeat refine And.intro (by first | omega | assumption | exact rfl) ?_); (first | refine V _ ?_ | refine Or.inl (V _ ?_)); clear V K0; simp only [put, app, aa, af, zE, zS, D])
   refine aj ?_
   refine hK10 _ ?_; clear hK10; refine ae [0, 1, 2, 3, 4, 15, 20] ?_; simp only [Y, lkp, zE, reduceCtorEq, E, Z, D]
   refine aI ?_
   refine ⟨by first | exact .inl rfl | exact .inr rfl, _, rfl, ?_⟩; simp only [fzV, fz1, fzC, List.map_cons, List.map_nil, Y, lkp, zE, reduceCtorEq, E, Z, D, Dfa.av, Mly.av]
   first
   | (have g9 := rT (by assumption); obtain ⟨g1, g2⟩ := g9; rw [g1, g2]; exact bz ⟨bU ⟨.refl _, .refl _, aT rfl, aT rfl, trivial⟩, aR (.refl _), trivial⟩)
   | (have g9 := qY hv (by omega); obtain ⟨g1, g2⟩ := g9; rw [g1, g2]; exact bz ⟨bU ⟨.refl _, .refl _, aT rfl, aT rfl, trivial⟩, aR (.refl _), trivial⟩)
   | (have g9 := lw hv (by omega); obtain ⟨g1, g2⟩ := g9; rw [g1, g2]; exact VLE.of_eq rfl)
  ·(try simp only [zB, reduceCtorEq] at hc9)
   refine aK ?_
   refine hK7 _ ?_; clear hK7; refine ae [0, 1, 2, 3, 4, 15, 20] ?_; simp only [Y, lkp, zE, reduceCtorEq, E, Z, D]
   refine ab fun K11 hK11 => ?_
   refine ai hP hN rfl ?_
   iterate 7 (refine ad rfl fun K0 V => ?_; simp only [zE, op1, ev, lkp, ah, ag, aw, az, Nat.mul_one, ax, ay, acs, Ty.dflt, zG, ao, bW, bh, aQ, au, bQ, bj, aL, Ty.size, reduceCtorEq, E, D, J, U, O, S, Try.st25, Try.st58, Try.td1, Try.td25, Try.td3, Try.td58, Dfa.av, Mly.av]; (repeat refine And.intro (by first | omega | assumption | exact rfl) ?_); (first | refine V _ ?_ | refine Or.inl (V _ ?_)); clear V K0; simp only [put, app, aa, af, zE, zS, D])
   refine aj ?_
   refine hK11 _ ?_; clear hK11; refine ae [0, 1, 2, 3, 4, 5, 15, 20] ?_; simp only [Y, lkp, zE, reduceCtorEq, E, Z, D]
   refine ab fun K12 hK12 => ?_
   refine ab fun K13 hK13 => ?_
   refine ai hP hN rfl ?_
   iterate 4 (refine ad rfl fun K0 V => ?_; simp only [zE, op1, ev, lkp, ah, ag, aw, az, Nat.mul_one, ax, ay, acs, Ty.dflt, zG, ao, aH, bu, bb, aY, aZ, br, Nat.div_one, aM, b0, Ty.size, aL, dite_true, reduceCtorEq, E, D, J, U, O, S, Try.el22, Try.st25, Try.td2, Try.td22, Try.td25, Try.td3, Dfa.av, Mly.av]; (repeat refine And.intro (by first | omega | assumption | exact rfl) ?_); (first | refine V _ ?_ | refine Or.inl (V _ ?_)); clear V K0; simp only [put, app, aa, af, zE, zS, D])
   refine aj ?_
   refine hK13 _ ?_; clear hK13; refine ae [0, 1, 2, 3, 4, 5, 15, 20, 28, 29, 30] ?_; simp only [Y, lkp, zE, reduceCtorEq, E, Z, D]
   refine aP ?_
   refine cY 2 2 (.list (.int .i64)) 26 (by decide) rfl rfl ?_; simp only [zS, List.length_cons, List.length_nil, List.cons_append, List.nil_append, Nat.zero_add, D]
   refine cY 2 3 (.list (.int .i64)) 26 (by decide) rfl rfl ?_; simp only [zS, List.length_cons, List.length_nil, List.cons_append, List.nil_append, Nat.zero_add, D]
   refine bG (fun n14 s14 => ∃ (k : Nat) (v : Nat), (k ≤ d.nx.length) ∧ n14 = d.nx.length - k ∧ s14 = { env := [(1, .one (.ptr 0 0 0 0)), (2, .one (.ptr 1 0 0 0)), (3, .one (.int .i64 0)), (5, .one (.ptr 2 0 0 0)), (28, .one (.list (.list (.int .i64)) d.nx)), (29, .one (.int .i64 (d.nx.length : Int))), (30, .one (.int .i64 (k : Int)))], L := [.vars 25 [.int .i64 d.inp, .int .i64 d.st, .list (.list (.int .i64)) d.nx, .list .bool d.acc], .vars 58 [.int .i64 0, .int .i64 0, .nils, .nils], .vars 58 [.int .i64 d.inp, .int .i64 d.st, .row 3 v, .row 4 v], .row (.list (.int .i64)) 26 v (d.nx.take k), .row (.list (.int .i64)) 26 v (d.om.take k)] }) ?_ ?_
   ·exact ⟨_, _, aO [1, 2, 3, 5, 28, 29, 30], 0, 0, Nat.zero_le _, rfl, rfl⟩
   ·rintro n14 s14 ⟨k, v, hk, rfl, rfl⟩
    refine ab fun K15 hK15 => ?_
    refine ai hP hN rfl ?_
    (refine ad rfl fun K0 V => ?_; simp only [zE, op1, ev, lkp, ah, ag, aE, aC, aD, ar, aB, aN, reduceCtorEq, E, D, J, U, O, S, Try.td3, Dfa.av, Mly.av]; (repeat refine And.intro (by first | omega | assumption | exact rfl) ?_); refine V _ ?_; clear V K0; simp only [put, app, aa, af, zE, zS, D])
    refine aj ?_
    refine hK15 _ ?_; clear hK15; refine ae [1, 2, 3, 5, 28, 29, 30, 31] ?_; simp only [Y, lkp, zE, reduceCtorEq, E, Z, D]
    refine ab fun K16 hK16 => ?_
    refine aF (by simp only [ev, Y, lkp, zE, reduceCtorEq, E, Z, D]; exact rfl) (fun hc17 => ?_) (fun hc17 => ?_)
    ·(try simp only [zB, reduceCtorEq] at hc17)
     refine aK ?_
     refine hK16 _ ?_; clear hK16; refine ae [1, 2, 3, 5, 28, 29, 30, 31] ?_; simp only [Y, lkp, zE, reduceCtorEq, E, Z, D]
     refine ab fun K18 hK18 => ?_
     refine aP ?_
     refine ab fun K19 hK19 => ?_
     have hrl : ((d.nx.getD k []).length : Int) = d.inp := hd.rl k (by omega)
     refine ai hP hN rfl ?_
     iterate 3 (refine ad rfl fun K0 V => ?_; simp only [zE, op1, ev, lkp, ah, ag, aJ, zG, Ty.dflt, Ty.size, Nat.mul_one, ne_eq, not_false_eq_true, Int.natCast_one, Int.mul_one, az, ax, ay, acs, ao, reduceCtorEq, E, D, J, U, O, S, Try.el22, Try.el26, Try.td22, Try.td26, Dfa.av, Mly.av]; (repeat refine And.intro (by first | omega | assumption | exact rfl) ?_); refine V _ ?_; clear V K0; simp only [put, app, aa, af, zE, zS, D])
     refine aj ?_
     refine hK19 _ ?_; clear hK19; refine ae [1, 2, 3, 5, 7, 28, 29, 30, 31] ?_; simp only [Y, lkp, zE, reduceCtorEq, E, Z, D]
     refine ab fun K20 hK20 => ?_
     refine ai hP hN rfl ?_
     iterate 4 (refine ad rfl fun K0 V => ?_; simp only [zE, op1, ev, lkp, ah, ag, aH, bu, bb, aY, aZ, br, Nat.div_one, aM, b0, Ty.size, aL, dite_true, cD, Ty.dflt, reduceCtorEq, E, D, J, U, O, S, Try.el26, Try.td26, Try.td3, Dfa.av, Mly.av]; (repeat refine And.intro (by first | omega | assumption | exact rfl) ?_); (first | refine V _ ?_ | refine Or.inl (V _ ?_)); clear V K0; simp only [put, app, aa, af, zE, zS, D])
     refine aj ?_
     refine hK20 _ ?_; clear hK20; refine ae [1, 2, 3, 5, 7, 8, 28, 29, 30, 31] ?_; simp only [Y, lkp, zE, reduceCtorEq, E, Z, D]
     refine ab fun K21 hK21 => ?_
     refine ab fun K22 hK22 => ?_
     refine ai hP hN rfl ?_
     iterate 3 (refine ad rfl fun K0 V => ?_; simp only [zE, op1, ev, lkp, ah, ag, aH, bu, bb, aY, aZ, br, Nat.div_one, aM, b0, Ty.size, aL, dite_true, reduceCtorEq, E, D, J, U, O, S, Try.el26, Try.td26, Try.td3, Dfa.av, Mly.av]; (repeat refine And.intro (by first | omega | assumption | exact rfl) ?_); (first | refine V _ ?_ | refine Or.inl (V _ ?_)); clear V K0; simp only [put, app, aa, af, zE, zS, D])
     refine aj ?_
     refine hK22 _ ?_; clear hK22; refine ae [1, 2, 3, 5, 7, 8, 28, 29, 30, 31, 37, 38, 39] ?_; simp only [Y, lkp, zE, reduceCtorEq, E, Z, D]
     refine aP ?_
     refine bG (fun n23 s23 => ∃ (j : Nat) (w : Nat), (j ≤ (d.nx.getD k []).length) ∧ n23 = (d.nx.getD k []).length - j ∧ s23 = { env := [(1, .one (.ptr 0 0 0 0)), (2, .one (.ptr 1 0 0 0)), (3, .one (.int .i64 0)), (5, .one (.ptr 2 0 0 0)), (7, .one (.list (.int .i64) (d.nx.getD k []))), (8, .one (.row 5 w)), (28, .one (.list (.list (.int .i64)) d.nx)), (29, .one (.int .i64 (d.nx.length : Int))), (30, .one (.int .i64 (k : Int))), (37, .one (.list (.int .i64) (d.nx.getD k []))), (38, .one (.int .i64 ((d.nx.getD k []).length : Int))), (39, .one (.int .i64 (j : Int)))], L := [.vars 25 [.int .i64 d.inp, .int .i64 d.st, .list (.list (.int .i64)) d.nx, .list .bool d.acc], .vars 58 [.int .i64 0, .int .i64 0, .nils, .nils], .vars 58 [.int .i64 d.inp, .int .i64 d.st, .row 3 v, .row 4 v], .row (.list (.int .i64)) 26 v (d.nx.take k), .row (.list (.int .i64)) 26 v (d.om.take k), .row (.int .i64) 3 w (d.om1 ((d.nx.getD k []).take j))] }) ?_ ?_
     ·exact ⟨_, _, aO [1, 2, 3, 5, 7, 8, 28, 29, 30, 37, 38, 39], 0, 0, Nat.zero_le _, rfl, rfl⟩
     ·rintro n23 s23 ⟨j, w, hj, rfl, rfl⟩
      refine ab fun K24 hK24 => ?_
      refine ai hP hN rfl ?_
      (refine ad rfl fun K0 V => ?_; simp only [zE, op1, ev, lkp, ah, ag, aE, aC, aD, ar, aB, aN, reduceCtorEq, E, D, J, U, O, S, Try.td3, Dfa.av, Mly.av]; (repeat refine And.intro (by first | omega | assumption | exact rfl) ?_); refine V _ ?_; clear V K0; simp only [put, app, aa, af, zE, zS, D])
      refine aj ?_
      refine hK24 _ ?_; clear hK24; refine ae [1, 2, 3, 5, 7, 8, 28, 29, 30, 37, 38, 39, 40] ?_; simp only [Y, lkp, zE, reduceCtorEq, E, Z, D]
      refine ab fun K25 hK25 => ?_
      refine aF (by simp only [ev, Y, lkp, zE, reduceCtorEq, E, Z, D]; exact rfl) (fun hc26 => ?_) (fun hc26 => ?_)
      ·(try simp only [zB, reduceCtorEq] at hc26)
       refine aK ?_
       refine hK25 _ ?_; clear hK25; refine ae [1, 2, 3, 5, 7, 8, 28, 29, 30, 37, 38, 39, 40] ?_; simp only [Y, lkp, zE, reduceCtorEq, E, Z, D]
       refine ab fun K27 hK27 => ?_
       refine aP ?_
       refine ab fun K28 hK28 => ?_
       refine ai hP hN rfl ?_
       iterate 3 (refine ad rfl fun K0 V => ?_; simp only [zE, op1, ev, lkp, ah, ag, aJ, zG, Ty.dflt, Ty.size, Nat.mul_one, ne_eq, not_false_eq_true, Int.natCast_one, Int.mul_one, az, ax, ay, acs, ao, reduceCtorEq, E, D, J, U, O, S, Try.el26, Try.td26, Try.td3, Dfa.av, Mly.av]; (repeat refine And.intro (by first | omega | assumption | exact rfl) ?_); refine V _ ?_; clear V K0; simp only [put, app, aa, af, zE, zS, D])
       refine aj ?_
       refine hK28 _ ?_; clear hK28; refine ae [1, 2, 3, 5, 7, 8, 10, 28, 29, 30, 37, 38, 39, 40] ?_; simp only [Y, lkp, zE, reduceCtorEq, E, Z, D]
       refine ab fun K29 hK29 => ?_
       refine ai hP hN rfl ?_
       (refine ad rfl fun K0 V => ?_; simp only [zE, op1, ev, lkp, ah, ag, ev, reduceCtorEq, E, D, J, U, O, S, Try.td3, Dfa.av, Mly.av]; refine V _ ?_; clear V K0; simp only [put, app, aa, af, zE, zS, D])
       refine aj ?_
       refine hK29 _ ?_; clear hK29; refine ae [1, 2, 3, 5, 7, 8, 10, 11, 28, 29, 30, 37, 38, 39, 40] ?_; simp only [Y, lkp, zE, reduceCtorEq, E, Z, D]
       refine ab fun K30 hK30 => ?_
       refine ab fun K31 hK31 => ?_
       have hcl : 0 ≤ (d.nx.getD k []).getD j 0 ∧ (d.nx.getD k []).getD j 0 < d.nx.length := hd.cl k j (by omega) (by omega)
       refine ai hP hN rfl ?_
       iterate 5 (refine ad rfl fun K0 V => ?_; simp only [zE, op1, ev, lkp, ah, ag, aw, az, Nat.mul_one, ax, ay, acs, Ty.dflt, zG, ao, aJ, Ty.size, ne_eq, not_false_eq_true, Int.natCast_one, Int.mul_one, reduceCtorEq, E, D, J, U, O, S, Try.el23, Try.st25, Try.td23, Try.td25, Try.td3, Try.td4, Dfa.av, Mly.av]; (repeat refine And.intro (by first | omega | assumption | exact rfl) ?_); refine V _ ?_; clear V K0; simp only [put, app, aa, af, zE, zS, D])
       refine aj ?_
       refine hK31 _ ?_; clear hK31; refine ae [1, 2, 3, 5, 7, 8, 10, 11, 28, 29, 30, 37, 38, 39, 40, 47] ?_; simp only [Y, lkp, zE, reduceCtorEq, E, Z, D]
       refine aF (by simp only [ev, Y, lkp, zE, reduceCtorEq, E, Z, D]; exact rfl) (fun hc32 => ?_) (fun hc32 => ?_)
       ·(try simp only [zB, reduceCtorEq] at hc32)
        have hat : d.ac ((d.nx.getD k []).getD j 0) = true := hc32
        refine ai hP hN rfl ?_
        (refine ad rfl fun K0 V => ?_; simp only [zE, op1, ev, lkp, ah, ag, ev, reduceCtorEq, E, D, J, U, O, S, Try.td3, Dfa.av, Mly.av]; refine V _ ?_; clear V K0; simp only [put, app, aa, af, zE, zS, D])
        refine aj ?_
        refine hK30 _ ?_; clear hK30; refine ae [1, 2, 3, 5, 7, 8, 10, 11, 28, 29, 30, 37, 38, 39, 40, 47] ?_; simp only [Y, lkp, zE, reduceCtorEq, E, Z, D]
        refine ai hP hN rfl ?_
        iterate 5 (refine ad rfl fun K0 V => ?_; simp only [zE, op1, ev, lkp, ah, ag, bn, bh, ch, rep, aL, aQ, au, Ty.size, aH, bu, bb, aY, aZ, br, Nat.div_one, aM, b0, dite_true, reduceCtorEq, E, D, J, U, O, S, Try.el26, Try.td1, Try.td26, Try.td3, Dfa.av, Mly.av, jx, List.length_take]; (repeat refine And.intro (by first | omega | assumption | exact rfl) ?_); (first | refine V _ ?_ | refine Or.inl (V _ ?_)); clear V K0; simp only [put, app, aa, af, zE, zS, D])
        refine aj ?_
        refine hK27 _ ?_; clear hK27; refine ae [1, 2, 3, 5, 7, 8, 10, 11, 28, 29, 30, 37, 38, 39, 40, 47] ?_; simp only [Y, lkp, zE, reduceCtorEq, E, Z, D]
        refine ai hP hN rfl ?_
        iterate 2 (refine ad rfl fun K0 V => ?_; simp only [zE, op1, ev, lkp, ah, ag, aE, aC, aD, ar, aB, aN, reduceCtorEq, E, D, J, U, O, S, Try.td3, Dfa.av, Mly.av]; (repeat refine And.intro (by first | omega | assumption | exact rfl) ?_); refine V _ ?_; clear V K0; simp only [put, app, aa, af, zE, zS, D])
        refine aj ?_
        first
        | (refine ⟨_, _, ?_, aO [1, 2, 3, 5, 7, 8, 28, 29, 30, 37, 38, 39], j + 1, w + 1, by omega, rfl, ?_⟩
           · omega
           · rw [rr (by omega) hat]; rfl)
        | (refine ⟨_, _, ?_, aO [1, 2, 3, 5, 7, 8, 28, 29, 30, 37, 38, 39], j + 1, w + 1, by omega, rfl, ?_⟩
           · omega
           · rw [qc (by omega) hat]; rfl)
       ·(try simp only [zB, reduceCtorEq] at hc32)
        have hat : d.ac ((d.nx.getD k []).getD j 0) = false := by simpa [Dfa.ac] using hc32
        refine aK ?_
        refine hK30 _ ?_; clear hK30; refine ae [1, 2, 3, 5, 7, 8, 10, 11, 28, 29, 30, 37, 38, 39, 40, 47] ?_; simp only [Y, lkp, zE, reduceCtorEq, E, Z, D]
        refine ai hP hN rfl ?_
        iterate 5 (refine ad rfl fun K0 V => ?_; simp only [zE, op1, ev, lkp, ah, ag, bn, bh, ch, rep, aL, aQ, au, Ty.size, aH, bu, bb, aY, aZ, br, Nat.div_one, aM, b0, dite_true, reduceCtorEq, E, D, J, U, O, S, Try.el26, Try.td1, Try.td26, Try.td3, Dfa.av, Mly.av, jx, List.length_take]; (repeat refine And.intro (by first | omega | assumption | exact rfl) ?_); (first | refine V _ ?_ | refine Or.inl (V _ ?_)); clear V K0; simp only [put, app, aa, af, zE, zS, D])
        refine aj ?_
        refine hK27 _ ?_; clear hK27; refine ae [1, 2, 3, 5, 7, 8, 10, 11, 28, 29, 30, 37, 38, 39, 40, 47] ?_; simp only [Y, lkp, zE, reduceCtorEq, E, Z, D]
        refine ai hP hN rfl ?_
        iterate 2 (refine ad rfl fun K0 V => ?_; simp only [zE, op1, ev, lkp, ah, ag, aE, aC, aD, ar, aB, aN, reduceCtorEq, E, D, J, U, O, S, Try.td3, Dfa.av, Mly.av]; (repeat refine And.intro (by first | omega | assumption | exact rfl) ?_); refine V _ ?_; clear V K0; simp only [put, app, aa, af, zE, zS, D])
        refine aj ?_
        first
        | (refine ⟨_, _, ?_, aO [1, 2, 3, 5, 7, 8, 28, 29, 30, 37, 38, 39], j + 1, w + 1, by omega, rfl, ?_⟩
           · omega
           · rw [rr (by omega) hat]; rfl)
        | (refine ⟨_, _, ?_, aO [1, 2, 3, 5, 7, 8, 28, 29, 30, 37, 38, 39], j + 1, w + 1, by omega, rfl, ?_⟩
           · omega
           · rw [qc (by omega) hat]; rfl)
      ·(try simp only [zB, reduceCtorEq] at hc26)
       refine bD ?_
       refine hK21 _ ?_; clear hK21; refine ae [1, 2, 3, 5, 7, 8, 28, 29, 30, 37, 38, 39, 40] ?_; simp only [Y, lkp, zE, reduceCtorEq, E, Z, D]
       refine ab fun K33 hK33 => ?_
       refine d9 5 rfl ?_; simp only [List.map_cons, List.map_nil, zS, E, and_self, and_true, true_and, and_false, false_and, if_true, if_false, eq_self, reduceCtorEq, Nat.one_ne_zero, Nat.zero_ne_one]
       have hjr : (d.nx.getD k []).take j = (d.nx.getD k []) := List.take_of_length_le (by omega)
       rw [hjr]
       refine bY hP hN Try.mixed rfl ?_
       iterate 3 (refine ad rfl fun K0 V => ?_; simp only [zE, op1, ev, lkp, ah, ag, aw, az, Nat.mul_one, ax, ay, acs, Ty.dflt, zG, ao, reduceCtorEq, E, D, J, U, O, S, Try.el22, Try.el26, Try.st58, Try.td2, Try.td22, Try.td26, Try.td58, Dfa.av, Mly.av, List.length_take]; (repeat refine And.intro (by first | omega | assumption | exact rfl) ?_); refine V _ ?_; clear V K0; simp only [put, app, aa, af, zE, zS, D])
       refine ad rfl fun K0 V => ?_
       refine aW (h := aG (nh (d.nx.getD k []) (by omega))) rfl rfl (by first | exact rfl | (simp only [ev, Y, lkp, zE, reduceCtorEq, E, Z, D]; exact rfl)) (by simp only [zE, zG, op1, ev, lkp, ah, ag, au, acs, ba, mv1, mvC, Ty.dflt, reduceCtorEq, E, D, J, U, O, S, Dfa.av, Mly.av, List.length_take]) ?_
       refine V _ ?_; clear V K0; simp only [put, app, aa, af, zE, zS, D]
       iterate 4 (refine ad rfl fun K0 V => ?_; simp only [zE, op1, ev, lkp, ah, ag, bn, bh, ch, rep, aL, aQ, au, Ty.size, aH, bu, bb, aY, aZ, br, Nat.div_one, aM, b0, dite_true, aw, bj, Nat.mul_one, acs, Ty.dflt, zG, reduceCtorEq, E, D, J, U, O, S, Try.el22, Try.st58, Try.td1, Try.td2, Try.td22, Try.td58, Dfa.av, Mly.av, List.length_take]; (repeat refine And.intro (by first | omega | assumption | exact rfl) ?_); (first | refine V _ ?_ | refine Or.inl (V _ ?_)); clear V K0; simp only [put, app, aa, af, zE, zS, D])
       refine aj ?_
       refine ⟨by kernel_rfl, ?_⟩
       refine hK33 _ ?_; clear hK33; refine ae [1, 2, 3, 5, 7, 8, 28, 29, 30, 37, 38, 39, 40] ?_; simp only [Y, lkp, zE, reduceCtorEq, E, Z, D]
       refine ai hP hN rfl ?_
       iterate 7 (refine ad rfl fun K0 V => ?_; simp only [zE, op1, ev, lkp, ah, ag, aw, az, Nat.mul_one, ax, ay, acs, Ty.dflt, zG, ao, bn, bh, ch, rep, aL, aQ, au, Ty.size, aH, bu, bb, aY, aZ, br, Nat.div_one, aM, b0, dite_true, bj, reduceCtorEq, E, D, J, U, O, S, Try.el22, Try.el26, Try.st58, Try.td1, Try.td22, Try.td26, Try.td3, Try.td58, Dfa.av, Mly.av, List.length_take, js]; (repeat refine And.intro (by first | omega | assumption | exact rfl) ?_); (first | refine V _ ?_ | refine Or.inl (V _ ?_)); clear V K0; simp only [put, app, aa, af, zE, zS, D])
       refine aj ?_
       refine hK18 _ ?_; clear hK18; refine ae [1, 2, 3, 5, 7, 8, 28, 29, 30, 37, 38, 39, 40] ?_; simp only [Y, lkp, zE, reduceCtorEq, E, Z, D]
       refine dP (n := 5) (L1 := [_, _, _, _, _]) rfl rfl (by rw [hB]; decide) rfl rfl ?_
       refine ai hP hN rfl ?_
       iterate 2 (refine ad rfl fun K0 V => ?_; simp only [zE, op1, ev, lkp, ah, ag, aE, aC, aD, ar, aB, aN, reduceCtorEq, E, D, J, U, O, S, Try.td3, Dfa.av, Mly.av]; (repeat refine And.intro (by first | omega | assumption | exact rfl) ?_); refine V _ ?_; clear V K0; simp only [put, app, aa, af, zE, zS, D])
       refine aj ?_
       refine ⟨_, _, ?_, aO [1, 2, 3, 5, 28, 29, 30], k + 1, v + 1, by omega, rfl, ?_⟩
       · omega
       · rw [eK [] (by omega), rk (by omega)]; rfl
    ·(try simp only [zB, reduceCtorEq] at hc17)
     refine bD ?_
     refine hK12 _ ?_; clear hK12; refine ae [1, 2, 3, 5, 28, 29, 30, 31] ?_; simp only [Y, lkp, zE, reduceCtorEq, E, Z, D]
     refine ab fun K34 hK34 => ?_
     refine cB 3 2 rfl rfl ?_; simp only [List.map_cons, List.map_nil, frC, zS, E, and_self, and_true, true_and, and_false, false_and, if_true, if_false, eq_self, reduceCtorEq, Nat.one_ne_zero, Nat.zero_ne_one]
     refine cB 4 2 rfl rfl ?_; simp only [List.map_cons, List.map_nil, frC, zS, E, and_self, and_true, true_and, and_false, false_and, if_true, if_false, eq_self, reduceCtorEq, Nat.one_ne_zero, Nat.zero_ne_one]
     obtain rfl : k = d.nx.length := by omega
     rw [List.take_length, s7]
     refine ai hP hN rfl ?_
     iterate 3 (refine ad rfl fun K0 V => ?_; simp only [zE, op1, ev, lkp, ah, ag, az, Nat.mul_one, ax, ay, acs, Ty.dflt, zG, ao, bj, au, aQ, aL, Ty.size, reduceCtorEq, E, D, J, U, O, S, Try.st58, Try.td29, Try.td58, Dfa.av, Mly.av]; (repeat refine And.intro (by first | omega | assumption | exact rfl) ?_); refine V _ ?_; clear V K0; simp only [put, app, aa, af, zE, zS, D])
     refine aj ?_
     refine hK34 _ ?_; clear hK34; refine ae [1, 2, 3, 5, 28, 29, 30, 31] ?_; simp only [Y, lkp, zE, reduceCtorEq, E, Z, D]
     refine aI ?_
     refine ⟨by first | exact .inl rfl | exact .inr rfl, _, rfl, ?_⟩; simp only [fzV, fz1, fzC, List.map_cons, List.map_nil, Y, lkp, zE, reduceCtorEq, E, Z, D, Dfa.av, Mly.av]
     first
     | (have g9 := rT (by assumption); obtain ⟨g1, g2⟩ := g9; rw [g1, g2]; exact bz ⟨bU ⟨.refl _, .refl _, aT rfl, aT rfl, trivial⟩, aR (.refl _), trivial⟩)
     | (have g9 := qY hv (by omega); obtain ⟨g1, g2⟩ := g9; rw [g1, g2]; exact bz ⟨bU ⟨.refl _, .refl _, aT rfl, aT rfl, trivial⟩, aR (.refl _), trivial⟩)
     | (have g9 := lw hv (by omega); obtain ⟨g1, g2⟩ := g9; rw [g1, g2]; exact VLE.of_eq rfl)
end Go.Proofs.Ytdkgcbhbpdbmnaa
namespace Go.Proofs.Ytdkgcbhbpdbmnaa
open Go Go.AV
open Nat renaming reduceEqDiff → E, reduceAdd → D, reduceLeDiff → J, reduceLT → U, reduceMul → O, reduceSub → S
open List renaming set_cons_zero → aq, set_cons_succ → am
set_option maxRecDepth 100000 in
set_option maxHeartbeats 2000000 in
theorem jZ  : bJ Try.prog 11 [] (.one (.bool true)) := by
 refine aS Try.func11 rfl (by kernel_rfl) (Nat.le_of_ble_eq_true rfl) rfl fun C hP hN hB => ?_
 replace hN : C.N = 170 := hN
 simp only [Z, D]
 refine ab fun K1 hK1 => ?_
 refine ai hP hN rfl ?_
 (refine ad rfl fun K0 V => ?_; simp only [zE, op1, ev, lkp, ah, ag, ev, reduceCtorEq, E, D, J, U, O, S, Try.td4, Dfa.av, Mly.av]; refine V _ ?_; clear V K0; simp only [put, app, aa, af, zE, zS, D])
 refine aj ?_
 refine hK1 _ ?_; clear hK1; refine ae [0] ?_; simp only [Y, lkp, zE, reduceCtorEq, E, Z, D]
 refine ab fun K2 hK2 => ?_
 refine ai hP hN rfl ?_
 refine ad rfl fun K0 V => ?_
 refine aW (h := aG pi) rfl rfl (by first | exact rfl | (simp only [ev, Y, lkp, zE, reduceCtorEq, E, Z, D]; exact rfl)) (by simp only [zE, zG, op1, ev, lkp, ah, ag, au, acs, ba, mv1, mvC, Ty.dflt, reduceCtorEq, E, D, J, U, O, S, Dfa.av, Mly.av]) ?_
 refine V _ ?_; clear V K0; simp only [put, app, aa, af, zE, zS, D]
 iterate 2 (refine ad rfl fun K0 V => ?_; simp only [zE, op1, ev, lkp, ah, ag, bQ, bj, Nat.mul_one, au, aQ, aL, acs, Ty.size, Ty.dflt, zG, reduceCtorEq, E, D, J, U, O, S, Try.st25, Try.td25, Dfa.av, Mly.av]; (repeat refine And.intro (by first | omega | assumption | exact rfl) ?_); (first | refine V _ ?_ | refine Or.inl (V _ ?_)); clear V K0; simp only [put, app, aa, af, zE, zS, D])
 refine aj ?_
 refine hK2 _ ?_; clear hK2; refine ae [0, 1] ?_; simp only [Y, lkp, zE, reduceCtorEq, E, Z, D]
 refine ab fun K3 hK3 => ?_
 refine ai hP hN rfl ?_
 (refine ad rfl fun K0 V => ?_; simp only [zE, op1, ev, lkp, ah, ag, az, Nat.mul_one, ax, ay, acs, Ty.dflt, zG, ao, reduceCtorEq, E, D, J, U, O, S, Try.st25, Try.td25, Dfa.av, Mly.av]; (repeat refine And.intro (by first | omega | assumption | exact rfl) ?_); refine V _ ?_; clear V K0; simp only [put, app, aa, af, zE, zS, D])
 refine ad rfl fun K0 V => ?_
 refine aW (h := aG (qZ dEv)) rfl rfl (by first | exact rfl | (simp only [ev, Y, lkp, zE, reduceCtorEq, E, Z, D]; exact rfl)) (by simp only [zE, zG, op1, ev, lkp, ah, ag, au, acs, ba, mv1, mvC, Ty.dflt, reduceCtorEq, E, D, J, U, O, S, Dfa.av, Mly.av]) ?_
 refine V _ ?_; clear V K0; simp only [put, app, aa, af, zE, zS, D]
 iterate 6 (refine ad rfl fun K0 V => ?_; simp only [zE, op1, ev, lkp, ah, ag, bI, bQ, bj, Nat.mul_one, au, aQ, aL, acs, Ty.size, Ty.dflt, zG, reduceCtorEq, E, D, J, U, O, S, Try.st25, Try.td1, Try.td25, Try.td29, Dfa.av, Mly.av]; (repeat refine And.intro (by first | omega | assumption | exact rfl) ?_); (first | refine V _ ?_ | refine Or.inl (V _ ?_)); clear V K0; simp only [put, app, aa, af, zE, zS, D])
 refine aj ?_
 refine hK3 _ ?_; clear hK3; refine ae [0, 1, 2, 3] ?_; simp only [Y, lkp, zE, reduceCtorEq, E, Z, D]
 refine ab fun K4 hK4 => ?_
 refine ai hP hN rfl ?_
 iterate 2 (refine ad rfl fun K0 V => ?_; simp only [zE, op1, ev, lkp, ah, ag, az, Nat.mul_one, ax, ay, acs, Ty.dflt, zG, ao, bn, bh, ch, rep, aL, aQ, au, Ty.size, reduceCtorEq, E, D, J, U, O, S, Try.el26, Try.st25, Try.td25, Try.td26, Try.td3, Dfa.av, Mly.av]; (repeat refine And.intro (by first | omega | assumption | exact rfl) ?_); (first | refine V _ ?_ | refine Or.inl (V _ ?_)); clear V K0; simp only [put, app, aa, af, zE, zS, D])
 refine ad rfl fun K0 V => ?_
 refine aW (h := aG (j7 dEv [1, 0, 1])) rfl rfl (by first | exact rfl | (simp only [ev, Y, lkp, zE, reduceCtorEq, E, Z, D]; exact rfl)) (by simp only [zE, zG, op1, ev, lkp, ah, ag, au, acs, ba, mv1, mvC, Ty.dflt, reduceCtorEq, E, D, J, U, O, S, Dfa.av, Mly.av]) ?_
 refine V _ ?_; clear V K0; simp only [put, app, aa, af, zE, zS, D]
 iterate 5 (refine ad rfl fun K0 V => ?_; simp only [zE, op1, ev, lkp, ah, ag, bI, reduceCtorEq, E, D, J, U, O, S, Try.td1, Try.td29, Try.td4, Dfa.av, Mly.av]; refine V _ ?_; clear V K0; simp only [put, app, aa, af, zE, zS, D])
 refine aj ?_
 refine hK4 _ ?_; clear hK4; refine ae [0, 1, 2, 3, 4, 5] ?_; simp only [Y, lkp, zE, reduceCtorEq, E, Z, D]
 refine ab fun K5 hK5 => ?_
 refine ai hP hN rfl ?_
 (refine ad rfl fun K0 V => ?_; simp only [zE, op1, ev, lkp, ah, ag, az, Nat.mul_one, ax, ay, acs, Ty.dflt, zG, ao, reduceCtorEq, E, D, J, U, O, S, Try.st25, Try.td25, Dfa.av, Mly.av]; (repeat refine And.intro (by first | omega | assumption | exact rfl) ?_); refine V _ ?_; clear V K0; simp only [put, app, aa, af, zE, zS, D])
 refine ad rfl fun K0 V => ?_
 refine aW (h := aG (p7 (coD dEv))) rfl rfl (by first | exact rfl | (simp only [ev, Y, lkp, zE, reduceCtorEq, E, Z, D]; exact rfl)) (by simp only [zE, zG, op1, ev, lkp, ah, ag, au, acs, ba, mv1, mvC, Ty.dflt, reduceCtorEq, E, D, J, U, O, S, Dfa.av, Mly.av]) ?_
 refine V _ ?_; clear V K0; simp only [put, app, aa, af, zE, zS, D]
 iterate 7 (refine ad rfl fun K0 V => ?_; simp only [zE, op1, ev, lkp, ah, ag, bI, reduceCtorEq, E, D, J, U, O, S, Try.el26, Try.td1, Try.td2, Try.td26, Try.td29, Try.td4, Dfa.av, Mly.av]; refine V _ ?_; clear V K0; simp only [put, app, aa, af, zE, zS, D])
 refine aj ?_
 refine hK5 _ ?_; clear hK5; refine ae [0, 1, 2, 3, 4, 5, 6, 7, 8] ?_; simp only [Y, lkp, zE, reduceCtorEq, E, Z, D]
 refine ab fun K6 hK6 => ?_
 refine ai hP hN rfl ?_
 (refine ad rfl fun K0 V => ?_; simp only [zE, op1, ev, lkp, ah, ag, az, Nat.mul_one, ax, ay, acs, Ty.dflt, zG, ao, reduceCtorEq, E, D, J, U, O, S, Try.st25, Try.td25, Dfa.av, Mly.av]; (repeat refine And.intro (by first | omega | assumption | exact rfl) ?_); refine V _ ?_; clear V K0; simp only [put, app, aa, af, zE, zS, D])
 refine ad rfl fun K0 V => ?_
 refine aW (h := aG (pH dEv 3)) rfl rfl (by first | exact rfl | (simp only [ev, Y, lkp, zE, reduceCtorEq, E, Z, D]; exact rfl)) (by simp only [zE, zG, op1, ev, lkp, ah, ag, au, acs, ba, mv1, mvC, Ty.dflt, reduceCtorEq, E, D, J, U, O, S, Dfa.av, Mly.av]) ?_
 refine V _ ?_; clear V K0; simp only [put, app, aa, af, zE, zS, D]
 iterate 5 (refine ad rfl fun K0 V => ?_; simp only [zE, op1, ev, lkp, ah, ag, bI, reduceCtorEq, E, D, J, U, O, S, Try.td1, Try.td29, Try.td3, Dfa.av, Mly.av]; refine V _ ?_; clear V K0; simp only [put, app, aa, af, zE, zS, D])
 refine aj ?_
 refine hK6 _ ?_; clear hK6; refine ae [0, 1, 2, 3, 4, 5, 6, 7, 8, 9, 10] ?_; simp only [Y, lkp, zE, reduceCtorEq, E, Z, D]
 refine ab fun K7 hK7 => ?_
 refine ai hP hN rfl ?_
 iterate 2 (refine ad rfl fun K0 V => ?_; simp only [zE, op1, ev, lkp, ah, ag, az, Nat.mul_one, ax, ay, acs, Ty.dflt, zG, ao, reduceCtorEq, E, D, J, U, O, S, Try.st25, Try.td25, Dfa.av, Mly.av]; (repeat refine And.intro (by first | omega | assumption | exact rfl) ?_); refine V _ ?_; clear V K0; simp only [put, app, aa, af, zE, zS, D])
 refine ad rfl fun K0 V => ?_
 refine aW (h := aG (m9 3 dEv (coD dEv))) rfl rfl (by first | exact rfl | (simp only [ev, Y, lkp, zE, reduceCtorEq, E, Z, D]; exact rfl)) (by simp only [zE, zG, op1, ev, lkp, ah, ag, au, acs, ba, mv1, mvC, Ty.dflt, reduceCtorEq, E, D, J, U, O, S, Dfa.av, Mly.av]) ?_
 refine V _ ?_; clear V K0; simp only [put, app, aa, af, zE, zS, D]
 iterate 6 (refine ad rfl fun K0 V => ?_; simp only [zE, op1, ev, lkp, ah, ag, bI, bQ, bj, Nat.mul_one, au, aQ, aL, acs, Ty.size, Ty.dflt, zG, reduceCtorEq, E, D, J, U, O, S, Try.st25, Try.td1, Try.td25, Try.td29, Dfa.av, Mly.av]; (repeat refine And.intro (by first | omega | assumption | exact rfl) ?_); (first | refine V _ ?_ | refine Or.inl (V _ ?_)); clear V K0; simp only [put, app, aa, af, zE, zS, D])
 refine aj ?_
 refine hK7 _ ?_; clear hK7; refine ae [0, 1, 2, 3, 4, 5, 6, 7, 8, 9, 10, 11, 12] ?_; simp only [Y, lkp, zE, reduceCtorEq, E, Z, D]
 refine ab fun K8 hK8 => ?_
 refine ai hP hN rfl ?_
 (refine ad rfl fun K0 V => ?_; simp only [zE, op1, ev, lkp, ah, ag, az, Nat.mul_one, ax, ay, acs, Ty.dflt, zG, ao, reduceCtorEq, E, D, J, U, O, S, Try.st25, Try.td25, Dfa.av, Mly.av]; (repeat refine And.intro (by first | omega | assumption | exact rfl) ?_); refine V _ ?_; clear V K0; simp only [put, app, aa, af, zE, zS, D])
 refine ad rfl fun K0 V => ?_
 refine aW (h := aG (sx (dF 3 dEv (coD dEv)))) rfl rfl (by first | exact rfl | (simp only [ev, Y, lkp, zE, reduceCtorEq, E, Z, D]; exact rfl)) (by simp only [zE, zG, op1, ev, lkp, ah, ag, au, acs, ba, mv1, mvC, Ty.dflt, reduceCtorEq, E, D, J, U, O, S, Dfa.av, Mly.av]) ?_
 refine V _ ?_; clear V K0; simp only [put, app, aa, af, zE, zS, D]
 iterate 6 (refine ad rfl fun K0 V => ?_; simp only [zE, op1, ev, lkp, ah, ag, bI, bQ, bj, Nat.mul_one, au, aQ, aL, acs, Ty.size, Ty.dflt, zG, reduceCtorEq, E, D, J, U, O, S, Try.st25, Try.td1, Try.td25, Try.td29, Dfa.av, Mly.av]; (repeat refine And.intro (by first | omega | assumption | exact rfl) ?_); (first | refine V _ ?_ | refine Or.inl (V _ ?_)); clear V K0; simp only [put, app, aa, af, zE, zS, D])
 refine aj ?_
 refine hK8 _ ?_; clear hK8; refine ae [0, 1, 2, 3, 4, 5, 6, 7, 8, 9, 10, 11, 12, 13, 14] ?_; simp only [Y, lkp, zE, reduceCtorEq, E, Z, D]
 refine ab fun K9 hK9 => ?_
 refine ai hP hN rfl ?_
 iterate 2 (refine ad rfl fun K0 V => ?_; simp only [zE, op1, ev, lkp, ah, ag, az, Nat.mul_one, ax, ay, acs, Ty.dflt, zG, ao, reduceCtorEq, E, D, J, U, O, S, Try.st25, Try.td25, Dfa.av, Mly.av]; (repeat refine And.intro (by first | omega | assumption | exact rfl) ?_); refine V _ ?_; clear V K0; simp only [put, app, aa, af, zE, zS, D])
 refine ad rfl fun K0 V => ?_
 refine aW (h := aG (jE dEv (coD dEv))) rfl rfl (by first | exact rfl | (simp only [ev, Y, lkp, zE, reduceCtorEq, E, Z, D]; exact rfl)) (by simp only [zE, zG, op1, ev, lkp, ah, ag, au, acs, ba, mv1, mvC, Ty.dflt, reduceCtorEq, E, D, J, U, O, S, Dfa.av, Mly.av]) ?_
 refine V _ ?_; clear V K0; simp only [put, app, aa, af, zE, zS, D]
 iterate 7 (refine ad rfl fun K0 V => ?_; simp only [zE, op1, ev, lkp, ah, ag, bI, reduceCtorEq, E, D, J, U, O, S, Try.el26, Try.td1, Try.td2, Try.td26, Try.td29, Try.td4, Dfa.av, Mly.av]; refine V _ ?_; clear V K0; simp only [put, app, aa, af, zE, zS, D])
 refine aj ?_
 refine hK9 _ ?_; clear hK9; refine ae [0, 1, 2, 3, 4, 5, 6, 7, 8, 9, 10, 11, 12, 13, 14, 16, 17] ?_; simp only [Y, lkp, zE, reduceCtorEq, E, Z, D]
 refine ab fun K10 hK10 => ?_
 refine ai hP hN rfl ?_
 iterate 2 (refine ad rfl fun K0 V => ?_; simp only [zE, op1, ev, lkp, ah, ag, az, Nat.mul_one, ax, ay, acs, Ty.dflt, zG, ao, reduceCtorEq, E, D, J, U, O, S, Try.st25, Try.td25, Dfa.av, Mly.av]; (repeat refine And.intro (by first | omega | assumption | exact rfl) ?_); refine V _ ?_; clear V K0; simp only [put, app, aa, af, zE, zS, D])
 refine ad rfl fun K0 V => ?_
 refine aW (h := aG (jE dEv dEv)) rfl rfl (by first | exact rfl | (simp only [ev, Y, lkp, zE, reduceCtorEq, E, Z, D]; exact rfl)) (by simp only [zE, zG, op1, ev, lkp, ah, ag, au, acs, ba, mv1, mvC, Ty.dflt, reduceCtorEq, E, D, J, U, O, S, Dfa.av, Mly.av]) ?_
 refine V _ ?_; clear V K0; simp only [put, app, aa, af, zE, zS, D]
 iterate 7 (refine ad rfl fun K0 V => ?_; simp only [zE, op1, ev, lkp, ah, ag, bI, reduceCtorEq, E, D, J, U, O, S, Try.el26, Try.td1, Try.td2, Try.td26, Try.td29, Try.td4, Dfa.av, Mly.av]; refine V _ ?_; clear V K0; simp only [put, app, aa, af, zE, zS, D])
 refine aj ?_
 refine hK10 _ ?_; clear hK10; refine ae [0, 1, 2, 3, 4, 5, 6, 7, 8, 9, 10, 11, 12, 13, 14, 16, 17, 19, 20] ?_; simp only [Y, lkp, zE, reduceCtorEq, E, Z, D]
 refine ab fun K11 hK11 => ?_
 refine ai hP hN rfl ?_
 (refine ad rfl fun K0 V => ?_; simp only [zE, op1, ev, lkp, ah, ag, az, Nat.mul_one, ax, ay, acs, Ty.dflt, zG, ao, reduceCtorEq, E, D, J, U, O, S, Try.st25, Try.td25, Dfa.av, Mly.av]; (repeat refine And.intro (by first | omega | assumption | exact rfl) ?_); refine V _ ?_; clear V K0; simp only [put, app, aa, af, zE, zS, D])
 refine ad rfl fun K0 V => ?_
 refine aW (h := aG (oL dEv)) rfl rfl (by first | exact rfl | (simp only [ev, Y, lkp, zE, reduceCtorEq, E, Z, D]; exact rfl)) (by simp only [zE, zG, op1, ev, lkp, ah, ag, au, acs, ba, mv1, mvC, Ty.dflt, reduceCtorEq, E, D, J, U, O, S, Dfa.av, Mly.av]) ?_
 refine V _ ?_; clear V K0; simp only [put, app, aa, af, zE, zS, D]
 iterate 6 (refine ad rfl fun K0 V => ?_; simp only [zE, op1, ev, lkp, ah, ag, bI, bQ, bj, Nat.mul_one, au, aQ, aL, acs, Ty.size, Ty.dflt, zG, reduceCtorEq, E, D, J, U, O, S, Try.st58, Try.td1, Try.td29, Try.td58, Dfa.av, Mly.av]; (repeat refine And.intro (by first | omega | assumption | exact rfl) ?_); (first | refine V _ ?_ | refine Or.inl (V _ ?_)); clear V K0; simp only [put, app, aa, af, zE, zS, D])
 refine aj ?_
 refine hK11 _ ?_; clear hK11; refine ae [0, 1, 2, 3, 4, 5, 6, 7, 8, 9, 10, 11, 12, 13, 14, 16, 17, 19, 20, 21, 22] ?_; simp only [Y, lkp, zE, reduceCtorEq, E, Z, D]
 refine ab fun K12 hK12 => ?_
 refine ai hP hN rfl ?_
 (refine ad rfl fun K0 V => ?_; simp only [zE, op1, ev, lkp, ah, ag, az, Nat.mul_one, ax, ay, acs, Ty.dflt, zG, ao, reduceCtorEq, E, D, J, U, O, S, Try.st58, Try.td58, Dfa.av, Mly.av]; (repeat refine And.intro (by first | omega | assumption | exact rfl) ?_); refine V _ ?_; clear V K0; simp only [put, app, aa, af, zE, zS, D])
 refine ad rfl fun K0 V => ?_
 refine aW (h := aG (mw (toM dEv) true)) rfl rfl (by first | exact rfl | (simp only [ev, Y, lkp, zE, reduceCtorEq, E, Z, D]; exact rfl)) (by simp only [zE, zG, op1, ev, lkp, ah, ag, au, acs, ba, mv1, mvC, Ty.dflt, reduceCtorEq, E, D, J, U, O, S, Dfa.av, Mly.av]) ?_
 refine V _ ?_; clear V K0; simp only [put, app, aa, af, zE, zS, D]
 iterate 6 (refine ad rfl fun K0 V => ?_; simp only [zE, op1, ev, lkp, ah, ag, bI, bQ, bj, Nat.mul_one, au, aQ, aL, acs, Ty.size, Ty.dflt, zG, reduceCtorEq, E, D, J, U, O, S, Try.st25, Try.td1, Try.td25, Try.td29, Dfa.av, Mly.av]; (repeat refine And.intro (by first | omega | assumption | exact rfl) ?_); (first | refine V _ ?_ | refine Or.inl (V _ ?_)); clear V K0; simp only [put, app, aa, af, zE, zS, D])
 refine aj ?_
 refine hK12 _ ?_; clear hK12; refine ae [0, 1, 2, 3, 4, 5, 6, 7, 8, 9, 10, 11, 12, 13, 14, 16, 17, 19, 20, 21, 22, 23, 24] ?_; simp only [Y, lkp, zE, reduceCtorEq, E, Z, D]
 refine ab fun K13 hK13 => ?_
 refine ai hP hN rfl ?_
 iterate 2 (refine ad rfl fun K0 V => ?_; simp only [zE, op1, ev, lkp, ah, ag, aE, aC, aD, ar, aB, aN, reduceCtorEq, E, D, J, U, O, S, Try.td29, Try.td4, Dfa.av, Mly.av]; (repeat refine And.intro (by first | omega | assumption | exact rfl) ?_); refine V _ ?_; clear V K0; simp only [put, app, aa, af, zE, zS, D])
 (refine ad rfl fun K0 V => ?_; simp only [zE, op1, ev, lkp, ah, ag, ev, reduceCtorEq, E, D, J, U, O, S, Try.td4, Dfa.av, Mly.av]; refine V _ ?_; clear V K0; simp only [put, app, aa, af, zE, zS, D])
 refine' aU (want := true) 1 rfl (m := 85) (by simp only [Y, lkp, zE, reduceCtorEq, E, Z, D]; exact rfl) (by kernel_rfl) rfl rfl rfl rfl rfl (fun hg14 => ?a14) ?b14 ?c14
 case a14 =>
  have hq14 := hg14; (try simp only [zB, reduceCtorEq] at hg14); simp only [List.take_succ_cons, List.take_zero, List.cons_append, List.nil_append]
  (refine aA rfl fun K0 V => ?_; simp only [zE, op1, ev, lkp, ah, ag, ev, reduceCtorEq, E, D, J, U, O, S, Try.td4, Dfa.av, Mly.av]; refine V _ ?_; clear V K0; simp only [put, app, aa, af, zE, zS, D])
  (refine ad rfl fun K0 V => ?_; simp only [zE, op1, ev, lkp, ah, ag, bm, reduceCtorEq, E, D, J, U, O, S, Try.td4, Dfa.av, Mly.av]; refine V _ ?_; clear V K0; simp only [put, app, aa, af, zE, zS, D])
  refine aj ?_
  refine ⟨by simp only [Y, lkp, zE, reduceCtorEq, E, Z, D]; exact rfl, rfl, ?_, rfl⟩; (repeat refine aV rfl ?_); exact bt (by exact rfl) hq14
 case b14 => exact bq (by first | rfl | (simp [bS]; done) | decide)
 simp only [bg, aX]
 (refine ad rfl fun K0 V => ?_; simp only [zE, op1, ev, lkp, ah, ag, ev, reduceCtorEq, E, D, J, U, O, S, Try.td4, Dfa.av, Mly.av]; refine V _ ?_; clear V K0; simp only [put, app, aa, af, zE, zS, D])
 refine' aU (want := true) 2 rfl (m := 88) (by simp only [Y, lkp, zE, reduceCtorEq, E, Z, D]; exact rfl) (by kernel_rfl) rfl rfl rfl rfl rfl (fun hg15 => ?a15) ?b15 ?c15
 case a15 =>
  have hq15 := hg15; (try simp only [zB, reduceCtorEq] at hg15); simp only [List.take_succ_cons, List.take_zero, List.cons_append, List.nil_append]
  (refine aA rfl fun K0 V => ?_; simp only [zE, op1, ev, lkp, ah, ag, ev, reduceCtorEq, E, D, J, U, O, S, Try.td29, Dfa.av, Mly.av]; refine V _ ?_; clear V K0; simp only [put, app, aa, af, zE, zS, D])
  (refine aA rfl fun K0 V => ?_; simp only [zE, op1, ev, lkp, ah, ag, aE, aC, aD, ar, aB, aN, reduceCtorEq, E, D, J, U, O, S, Try.td29, Try.td4, Dfa.av, Mly.av]; (repeat refine And.intro (by first | omega | assumption | exact rfl) ?_); refine V _ ?_; clear V K0; simp only [put, app, aa, af, zE, zS, D])
  (refine ad rfl fun K0 V => ?_; simp only [zE, op1, ev, lkp, ah, ag, bm, reduceCtorEq, E, D, J, U, O, S, Try.td4, Dfa.av, Mly.av]; refine V _ ?_; clear V K0; simp only [put, app, aa, af, zE, zS, D])
  refine aj ?_
  refine ⟨by simp only [Y, lkp, zE, reduceCtorEq, E, Z, D]; exact rfl, rfl, ?_, rfl⟩; (repeat refine aV rfl ?_); exact bt (by exact rfl) hq15
 case b15 => exact bq (by first | rfl | (simp [bS]; done) | decide)
 simp only [bg, aX]
 (refine ad rfl fun K0 V => ?_; simp only [zE, op1, ev, lkp, ah, ag, ev, reduceCtorEq, E, D, J, U, O, S, Try.td4, Dfa.av, Mly.av]; refine V _ ?_; clear V K0; simp only [put, app, aa, af, zE, zS, D])
 refine' aU (want := true) 3 rfl (m := 92) (by simp only [Y, lkp, zE, reduceCtorEq, E, Z, D]; exact rfl) (by kernel_rfl) rfl rfl rfl rfl rfl (fun hg16 => ?a16) ?b16 ?c16
 case a16 =>
  have hq16 := hg16; (try simp only [zB, reduceCtorEq] at hg16); simp only [List.take_succ_cons, List.take_zero, List.cons_append, List.nil_append]
  (refine aA rfl fun K0 V => ?_; simp only [zE, op1, ev, lkp, ah, ag, ev, reduceCtorEq, E, D, J, U, O, S, Try.el26, Try.td26, Dfa.av, Mly.av]; refine V _ ?_; clear V K0; simp only [put, app, aa, af, zE, zS, D])
  (refine aA rfl fun K0 V => ?_; simp only [zE, op1, ev, lkp, ah, ag, bn, bh, ch, rep, aL, aQ, au, Ty.size, reduceCtorEq, E, D, J, U, O, S, Try.el26, Try.td1, Try.td26, Dfa.av, Mly.av]; (repeat refine And.intro (by first | omega | assumption | exact rfl) ?_); (first | refine V _ ?_ | refine Or.inl (V _ ?_)); clear V K0; simp only [put, app, aa, af, zE, zS, D])
  refine aA rfl fun K0 V => ?_
  refine aW (h := aG (oH (gJ (coD dEv)) [1])) rfl rfl (by first | exact rfl | (simp only [ev, Y, lkp, zE, reduceCtorEq, E, Z, D]; exact rfl)) (by simp only [zE, zG, op1, ev, lkp, ah, ag, au, acs, ba, mv1, mvC, Ty.dflt, reduceCtorEq, E, D, J, U, O, S, Dfa.av, Mly.av]) ?_
  refine V _ ?_; clear V K0; simp only [put, app, aa, af, zE, zS, D]
  (refine ad rfl fun K0 V => ?_; simp only [zE, op1, ev, lkp, ah, ag, bm, reduceCtorEq, E, D, J, U, O, S, Try.td4, Dfa.av, Mly.av]; refine V _ ?_; clear V K0; simp only [put, app, aa, af, zE, zS, D])
  refine aj ?_
  refine ⟨by simp only [Y, lkp, zE, reduceCtorEq, E, Z, D]; exact rfl, rfl, ?_, rfl⟩; (repeat refine aV rfl ?_); exact bt (by exact rfl) hq16
 case b16 => exact bq (by first | rfl | (simp [bS]; done) | decide)
 simp only [bg, aX]
 (refine ad rfl fun K0 V => ?_; simp only [zE, op1, ev, lkp, ah, ag, ev, reduceCtorEq, E, D, J, U, O, S, Try.td4, Dfa.av, Mly.av]; refine V _ ?_; clear V K0; simp only [put, app, aa, af, zE, zS, D])
 refine' aU (want := true) 1 rfl (m := 97) (by simp only [Y, lkp, zE, reduceCtorEq, E, Z, D]; exact rfl) (by kernel_rfl) rfl rfl rfl rfl rfl (fun hg17 => ?a17) ?b17 ?c17
 case a17 =>
  have hq17 := hg17; (try simp only [zB, reduceCtorEq] at hg17); simp only [List.take_succ_cons, List.take_zero, List.cons_append, List.nil_append]
  (refine aA rfl fun K0 V => ?_; simp only [zE, op1, ev, lkp, ah, ag, ev, reduceCtorEq, E, D, J, U, O, S, Try.td4, Dfa.av, Mly.av]; refine V _ ?_; clear V K0; simp only [put, app, aa, af, zE, zS, D])
  (refine ad rfl fun K0 V => ?_; simp only [zE, op1, ev, lkp, ah, ag, bm, reduceCtorEq, E, D, J, U, O, S, Try.td4, Dfa.av, Mly.av]; refine V _ ?_; clear V K0; simp only [put, app, aa, af, zE, zS, D])
  refine aj ?_
  refine ⟨by simp only [Y, lkp, zE, reduceCtorEq, E, Z, D]; exact rfl, rfl, ?_, rfl⟩; (repeat refine aV rfl ?_); exact bt (by exact rfl) hq17
 case b17 => exact bq (by first | rfl | (simp [bS]; done) | decide)
 simp only [bg, aX]
 (refine ad rfl fun K0 V => ?_; simp only [zE, op1, ev, lkp, ah, ag, ev, reduceCtorEq, E, D, J, U, O, S, Try.td4, Dfa.av, Mly.av]; refine V _ ?_; clear V K0; simp only [put, app, aa, af, zE, zS, D])
 refine' aU (want := true) 2 rfl (m := 100) (by simp only [Y, lkp, zE, reduceCtorEq, E, Z, D]; exact rfl) (by kernel_rfl) rfl rfl rfl rfl rfl (fun hg18 => ?a18) ?b18 ?c18
 case a18 =>
  have hq18 := hg18; (try simp only [zB, reduceCtorEq] at hg18); simp only [List.take_succ_cons, List.take_zero, List.cons_append, List.nil_append]
  (refine aA rfl fun K0 V => ?_; simp only [zE, op1, ev, lkp, ah, ag, ev, reduceCtorEq, E, D, J, U, O, S, Try.td29, Dfa.av, Mly.av]; refine V _ ?_; clear V K0; simp only [put, app, aa, af, zE, zS, D])
  (refine aA rfl fun K0 V => ?_; simp only [zE, op1, ev, lkp, ah, ag, aE, aC, aD, ar, aB, aN, reduceCtorEq, E, D, J, U, O, S, Try.td29, Try.td4, Dfa.av, Mly.av]; (repeat refine And.intro (by first | omega | assumption | exact rfl) ?_); refine V _ ?_; clear V K0; simp only [put, app, aa, af, zE, zS, D])
  (refine ad rfl fun K0 V => ?_; simp only [zE, op1, ev, lkp, ah, ag, bm, reduceCtorEq, E, D, J, U, O, S, Try.td4, Dfa.av, Mly.av]; refine V _ ?_; clear V K0; simp only [put, app, aa, af, zE, zS, D])
  refine aj ?_
  refine ⟨by simp only [Y, lkp, zE, reduceCtorEq, E, Z, D]; exact rfl, rfl, ?_, rfl⟩; (repeat refine aV rfl ?_); exact bt (by exact rfl) hq18
 case b18 => exact bq (by first | rfl | (simp [bS]; done) | decide)
 simp only [bg, aX]
 (refine ad rfl fun K0 V => ?_; simp only [zE, op1, ev, lkp, ah, ag, ev, reduceCtorEq, E, D, J, U, O, S, Try.td4, Dfa.av, Mly.av]; refine V _ ?_; clear V K0; simp only [put, app, aa, af, zE, zS, D])
 refine' aU (want := true) 2 rfl (m := 104) (by simp only [Y, lkp, zE, reduceCtorEq, E, Z, D]; exact rfl) (by kernel_rfl) rfl rfl rfl rfl rfl (fun hg19 => ?a19) ?b19 ?c19
 case a19 =>
  have hq19 := hg19; (try simp only [zB, reduceCtorEq] at hg19); simp only [List.take_succ_cons, List.take_zero, List.cons_append, List.nil_append]
  (refine aA rfl fun K0 V => ?_; simp only [zE, op1, ev, lkp, ah, ag, ev, reduceCtorEq, E, D, J, U, O, S, Try.td3, Dfa.av, Mly.av]; refine V _ ?_; clear V K0; simp only [put, app, aa, af, zE, zS, D])
  (refine aA rfl fun K0 V => ?_; simp only [zE, op1, ev, lkp, ah, ag, aE, aC, aD, ar, aB, aN, reduceCtorEq, E, D, J, U, O, S, Try.td3, Try.td4, Dfa.av, Mly.av]; (repeat refine And.intro (by first | omega | assumption | exact rfl) ?_); refine V _ ?_; clear V K0; simp only [put, app, aa, af, zE, zS, D])
  (refine ad rfl fun K0 V => ?_; simp only [zE, op1, ev, lkp, ah, ag, bm, reduceCtorEq, E, D, J, U, O, S, Try.td4, Dfa.av, Mly.av]; refine V _ ?_; clear V K0; simp only [put, app, aa, af, zE, zS, D])
  refine aj ?_
  refine ⟨by simp only [Y, lkp, zE, reduceCtorEq, E, Z, D]; exact rfl, rfl, ?_, rfl⟩; (repeat refine aV rfl ?_); exact bt (by exact rfl) hq19
 case b19 => exact bq (by first | rfl | (simp [bS]; done) | decide)
 simp only [bg, aX]
 (refine ad rfl fun K0 V => ?_; simp only [zE, op1, ev, lkp, ah, ag, ev, reduceCtorEq, E, D, J, U, O, S, Try.td4, Dfa.av, Mly.av]; refine V _ ?_; clear V K0; simp only [put, app, aa, af, zE, zS, D])
 refine' aU (want := true) 2 rfl (m := 108) (by simp only [Y, lkp, zE, reduceCtorEq, E, Z, D]; exact rfl) (by kernel_rfl) rfl rfl rfl rfl rfl (fun hg20 => ?a20) ?b20 ?c20
 case a20 =>
  have hq20 := hg20; (try simp only [zB, reduceCtorEq] at hg20); simp only [List.take_succ_cons, List.take_zero, List.cons_append, List.nil_append]
  (refine aA rfl fun K0 V => ?_; simp only [zE, op1, ev, lkp, ah, ag, ev, reduceCtorEq, E, D, J, U, O, S, Try.td29, Dfa.av, Mly.av]; refine V _ ?_; clear V K0; simp only [put, app, aa, af, zE, zS, D])
  (refine aA rfl fun K0 V => ?_; simp only [zE, op1, ev, lkp, ah, ag, aE, aC, aD, ar, aB, aN, reduceCtorEq, E, D, J, U, O, S, Try.td29, Try.td4, Dfa.av, Mly.av]; (repeat refine And.intro (by first | omega | assumption | exact rfl) ?_); refine V _ ?_; clear V K0; simp only [put, app, aa, af, zE, zS, D])
  (refine ad rfl fun K0 V => ?_; simp only [zE, op1, ev, lkp, ah, ag, bm, reduceCtorEq, E, D, J, U, O, S, Try.td4, Dfa.av, Mly.av]; refine V _ ?_; clear V K0; simp only [put, app, aa, af, zE, zS, D])
  refine aj ?_
  refine ⟨by simp only [Y, lkp, zE, reduceCtorEq, E, Z, D]; exact rfl, rfl, ?_, rfl⟩; (repeat refine aV rfl ?_); exact bt (by exact rfl) hq20
 case b20 => exact bq (by first | rfl | (simp [bS]; done) | decide)
 simp only [bg, aX]
 (refine ad rfl fun K0 V => ?_; simp only [zE, op1, ev, lkp, ah, ag, ev, reduceCtorEq, E, D, J, U, O, S, Try.td4, Dfa.av, Mly.av]; refine V _ ?_; clear V K0; simp only [put, app, aa, af, zE, zS, D])
 refine' aU (want := true) 4 rfl (m := 112) (by simp only [Y, lkp, zE, reduceCtorEq, E, Z, D]; exact rfl) (by kernel_rfl) rfl rfl rfl rfl rfl (fun hg21 => ?a21) ?b21 ?c21
 case a21 =>
  have hq21 := hg21; (try simp only [zB, reduceCtorEq] at hg21); simp only [List.take_succ_cons, List.take_zero, List.cons_append, List.nil_append]
  (refine aA rfl fun K0 V => ?_; simp only [zE, op1, ev, lkp, ah, ag, aw, reduceCtorEq, E, D, J, U, O, S, Try.st25, Try.td2, Try.td25, Dfa.av, Mly.av]; (repeat refine And.intro (by first | omega | assumption | exact rfl) ?_); refine V _ ?_; clear V K0; simp only [put, app, aa, af, zE, zS, D])
  (refine aA rfl fun K0 V => ?_; simp only [zE, op1, ev, lkp, ah, ag, az, Nat.mul_one, ax, ay, acs, Ty.dflt, zG, ao, reduceCtorEq, E, D, J, U, O, S, Try.el22, Try.td22, Dfa.av, Mly.av]; (repeat refine And.intro (by first | omega | assumption | exact rfl) ?_); refine V _ ?_; clear V K0; simp only [put, app, aa, af, zE, zS, D])
  (refine aA rfl fun K0 V => ?_; simp only [zE, op1, ev, lkp, ah, ag, aH, bu, bb, aY, aZ, br, Nat.div_one, aM, b0, Ty.size, aL, dite_true, reduceCtorEq, E, D, J, U, O, S, Try.el22, Try.td22, Try.td3, Dfa.av, Mly.av]; (repeat refine And.intro (by first | omega | assumption | exact rfl) ?_); (first | refine V _ ?_ | refine Or.inl (V _ ?_)); clear V K0; simp only [put, app, aa, af, zE, zS, D])
  (refine aA rfl fun K0 V => ?_; simp only [zE, op1, ev, lkp, ah, ag, aE, aC, aD, ar, aB, aN, reduceCtorEq, E, D, J, U, O, S, Try.td3, Try.td4, Dfa.av, Mly.av]; (repeat refine And.intro (by first | omega | assumption | exact rfl) ?_); refine V _ ?_; clear V K0; simp only [put, app, aa, af, zE, zS, D])
  (refine ad rfl fun K0 V => ?_; simp only [zE, op1, ev, lkp, ah, ag, bm, reduceCtorEq, E, D, J, U, O, S, Try.td4, Dfa.av, Mly.av]; refine V _ ?_; clear V K0; simp only [put, app, aa, af, zE, zS, D])
  refine aj ?_
  refine ⟨by simp only [Y, lkp, zE, reduceCtorEq, E, Z, D]; exact rfl, rfl, ?_, rfl⟩; (repeat refine aV rfl ?_); exact bt (by exact rfl) hq21
 case b21 => exact bq (by first | rfl | (simp [bS]; done) | decide)
 simp only [bg, aX]
 (refine ad rfl fun K0 V => ?_; simp only [zE, op1, ev, lkp, ah, ag, ev, reduceCtorEq, E, D, J, U, O, S, Try.td4, Dfa.av, Mly.av]; refine V _ ?_; clear V K0; simp only [put, app, aa, af, zE, zS, D])
 refine' aU (want := true) 2 rfl (m := 118) (by simp only [Y, lkp, zE, reduceCtorEq, E, Z, D]; exact rfl) (by kernel_rfl) rfl rfl rfl rfl rfl (fun hg22 => ?a22) ?b22 ?c22
 case a22 =>
  have hq22 := hg22; (try simp only [zB, reduceCtorEq] at hg22); simp only [List.take_succ_cons, List.take_zero, List.cons_append, List.nil_append]
  (refine aA rfl fun K0 V => ?_; simp only [zE, op1, ev, lkp, ah, ag, ev, reduceCtorEq, E, D, J, U, O, S, Try.td29, Dfa.av, Mly.av]; refine V _ ?_; clear V K0; simp only [put, app, aa, af, zE, zS, D])
  (refine aA rfl fun K0 V => ?_; simp only [zE, op1, ev, lkp, ah, ag, aE, aC, aD, ar, aB, aN, reduceCtorEq, E, D, J, U, O, S, Try.td29, Try.td4, Dfa.av, Mly.av]; (repeat refine And.intro (by first | omega | assumption | exact rfl) ?_); refine V _ ?_; clear V K0; simp only [put, app, aa, af, zE, zS, D])
  (refine ad rfl fun K0 V => ?_; simp only [zE, op1, ev, lkp, ah, ag, bm, reduceCtorEq, E, D, J, U, O, S, Try.td4, Dfa.av, Mly.av]; refine V _ ?_; clear V K0; simp only [put, app, aa, af, zE, zS, D])
  refine aj ?_
  refine ⟨by simp only [Y, lkp, zE, reduceCtorEq, E, Z, D]; exact rfl, rfl, ?_, rfl⟩; (repeat refine aV rfl ?_); exact bt (by exact rfl) hq22
 case b22 => exact bq (by first | rfl | (simp [bS]; done) | decide)
 simp only [bg, aX]
 (refine ad rfl fun K0 V => ?_; simp only [zE, op1, ev, lkp, ah, ag, ev, reduceCtorEq, E, D, J, U, O, S, Try.td4, Dfa.av, Mly.av]; refine V _ ?_; clear V K0; simp only [put, app, aa, af, zE, zS, D])
 refine' aU (want := true) 6 rfl (m := 122) (by simp only [Y, lkp, zE, reduceCtorEq, E, Z, D]; exact rfl) (by kernel_rfl) rfl rfl rfl rfl rfl (fun hg23 => ?a23) ?b23 ?c23
 case a23 =>
  have hq23 := hg23; (try simp only [zB, reduceCtorEq] at hg23); simp only [List.take_succ_cons, List.take_zero, List.cons_append, List.nil_append]
  (refine aA rfl fun K0 V => ?_; simp only [zE, op1, ev, lkp, ah, ag, az, Nat.mul_one, ax, ay, acs, Ty.dflt, zG, ao, reduceCtorEq, E, D, J, U, O, S, Try.st25, Try.td25, Dfa.av, Mly.av]; (repeat refine And.intro (by first | omega | assumption | exact rfl) ?_); refine V _ ?_; clear V K0; simp only [put, app, aa, af, zE, zS, D])
  (refine aA rfl fun K0 V => ?_; simp only [zE, op1, ev, lkp, ah, ag, bn, bh, ch, rep, aL, aQ, au, Ty.size, reduceCtorEq, E, D, J, U, O, S, Try.el26, Try.td2, Try.td26, Dfa.av, Mly.av]; (repeat refine And.intro (by first | omega | assumption | exact rfl) ?_); (first | refine V _ ?_ | refine Or.inl (V _ ?_)); clear V K0; simp only [put, app, aa, af, zE, zS, D])
  (refine aA rfl fun K0 V => ?_; simp only [zE, op1, ev, lkp, ah, ag, bn, bh, ch, rep, aL, aQ, au, Ty.size, reduceCtorEq, E, D, J, U, O, S, Try.el22, Try.td1, Try.td22, Dfa.av, Mly.av]; (repeat refine And.intro (by first | omega | assumption | exact rfl) ?_); (first | refine V _ ?_ | refine Or.inl (V _ ?_)); clear V K0; simp only [put, app, aa, af, zE, zS, D])
  (refine aA rfl fun K0 V => ?_; simp only [zE, op1, ev, lkp, ah, ag, bn, bh, ch, rep, aL, aQ, au, Ty.size, reduceCtorEq, E, D, J, U, O, S, Try.el23, Try.td1, Try.td23, Dfa.av, Mly.av]; (repeat refine And.intro (by first | omega | assumption | exact rfl) ?_); (first | refine V _ ?_ | refine Or.inl (V _ ?_)); clear V K0; simp only [put, app, aa, af, zE, zS, D])
  (refine aA rfl fun K0 V => ?_; simp only [zE, op1, ev, lkp, ah, ag, bW, bh, aQ, au, reduceCtorEq, E, D, J, U, O, S, Try.st25, Try.td25, Dfa.av, Mly.av]; (repeat refine And.intro (by first | omega | assumption | exact rfl) ?_); (first | refine V _ ?_ | refine Or.inl (V _ ?_)); clear V K0; simp only [put, app, aa, af, zE, zS, D])
  refine aA rfl fun K0 V => ?_
  refine aW (h := aG (mW (kY (dF 3 dEv (coD dEv))) ⟨2, 0, [[0, 0]], [true]⟩ (by decide +kernel))) rfl rfl (by first | exact rfl | (simp only [ev, Y, lkp, zE, reduceCtorEq, E, Z, D]; exact rfl)) (by simp only [zE, zG, op1, ev, lkp, ah, ag, au, acs, ba, mv1, mvC, Ty.dflt, reduceCtorEq, E, D, J, U, O, S, Dfa.av, Mly.av]) ?_
  refine V _ ?_; clear V K0; simp only [put, app, aa, af, zE, zS, D]
  (refine ad rfl fun K0 V => ?_; simp only [zE, op1, ev, lkp, ah, ag, bm, reduceCtorEq, E, D, J, U, O, S, Try.td4, Dfa.av, Mly.av]; refine V _ ?_; clear V K0; simp only [put, app, aa, af, zE, zS, D])
  refine aj ?_
  refine ⟨by simp only [Y, lkp, zE, reduceCtorEq, E, Z, D]; exact rfl, rfl, ?_, rfl⟩; (repeat refine aV rfl ?_); exact bt (by exact rfl) hq23
 case b23 => exact bq (by first | rfl | (simp [bS]; done) | decide)
 simp only [bg, aX]
 (refine ad rfl fun K0 V => ?_; simp only [zE, op1, ev, lkp, ah, ag, ev, reduceCtorEq, E, D, J, U, O, S, Try.td4, Dfa.av, Mly.av]; refine V _ ?_; clear V K0; simp only [put, app, aa, af, zE, zS, D])
 refine' aU (want := true) 2 rfl (m := 130) (by simp only [Y, lkp, zE, reduceCtorEq, E, Z, D]; exact rfl) (by kernel_rfl) rfl rfl rfl rfl rfl (fun hg24 => ?a24) ?b24 ?c24
 case a24 =>
  have hq24 := hg24; (try simp only [zB, reduceCtorEq] at hg24); simp only [List.take_succ_cons, List.take_zero, List.cons_append, List.nil_append]
  (refine aA rfl fun K0 V => ?_; simp only [zE, op1, ev, lkp, ah, ag, ev, reduceCtorEq, E, D, J, U, O, S, Try.td29, Dfa.av, Mly.av]; refine V _ ?_; clear V K0; simp only [put, app, aa, af, zE, zS, D])
  (refine aA rfl fun K0 V => ?_; simp only [zE, op1, ev, lkp, ah, ag, aE, aC, aD, ar, aB, aN, reduceCtorEq, E, D, J, U, O, S, Try.td29, Try.td4, Dfa.av, Mly.av]; (repeat refine And.intro (by first | omega | assumption | exact rfl) ?_); refine V _ ?_; clear V K0; simp only [put, app, aa, af, zE, zS, D])
  (refine ad rfl fun K0 V => ?_; simp only [zE, op1, ev, lkp, ah, ag, bm, reduceCtorEq, E, D, J, U, O, S, Try.td4, Dfa.av, Mly.av]; refine V _ ?_; clear V K0; simp only [put, app, aa, af, zE, zS, D])
  refine aj ?_
  refine ⟨by simp only [Y, lkp, zE, reduceCtorEq, E, Z, D]; exact rfl, rfl, ?_, rfl⟩; (repeat refine aV rfl ?_); exact bt (by exact rfl) hq24
 case b24 => exact bq (by first | rfl | (simp [bS]; done) | decide)
 simp only [bg, aX]
 (refine ad rfl fun K0 V => ?_; simp only [zE, op1, ev, lkp, ah, ag, ev, reduceCtorEq, E, D, J, U, O, S, Try.td4, Dfa.av, Mly.av]; refine V _ ?_; clear V K0; simp only [put, app, aa, af, zE, zS, D])
 refine' aU (want := true) 1 rfl (m := 134) (by simp only [Y, lkp, zE, reduceCtorEq, E, Z, D]; exact rfl) (by kernel_rfl) rfl rfl rfl rfl rfl (fun hg25 => ?a25) ?b25 ?c25
 case a25 =>
  have hq25 := hg25; (try simp only [zB, reduceCtorEq] at hg25); simp only [List.take_succ_cons, List.take_zero, List.cons_append, List.nil_append]
  (refine aA rfl fun K0 V => ?_; simp only [zE, op1, ev, lkp, ah, ag, ev, reduceCtorEq, E, D, J, U, O, S, Try.td4, Dfa.av, Mly.av]; refine V _ ?_; clear V K0; simp only [put, app, aa, af, zE, zS, D])
  (refine ad rfl fun K0 V => ?_; simp only [zE, op1, ev, lkp, ah, ag, bm, reduceCtorEq, E, D, J, U, O, S, Try.td4, Dfa.av, Mly.av]; refine V _ ?_; clear V K0; simp only [put, app, aa, af, zE, zS, D])
  refine aj ?_
  refine ⟨by simp only [Y, lkp, zE, reduceCtorEq, E, Z, D]; exact rfl, rfl, ?_, rfl⟩; (repeat refine aV rfl ?_); exact bt (by exact rfl) hq25
 case b25 => exact bq (by first | rfl | (simp [bS]; done) | decide)
 simp only [bg, aX]
 (refine ad rfl fun K0 V => ?_; simp only [zE, op1, ev, lkp, ah, ag, ev, reduceCtorEq, E, D, J, U, O, S, Try.td4, Dfa.av, Mly.av]; refine V _ ?_; clear V K0; simp only [put, app, aa, af, zE, zS, D])
 refine' aU (want := true) 2 rfl (m := 137) (by simp only [Y, lkp, zE, reduceCtorEq, E, Z, D]; exact rfl) (by kernel_rfl) rfl rfl rfl rfl rfl (fun hg26 => ?a26) ?b26 ?c26
 case a26 =>
  have hq26 := hg26; (try simp only [zB, reduceCtorEq] at hg26); simp only [List.take_succ_cons, List.take_zero, List.cons_append, List.nil_append]
  (refine aA rfl fun K0 V => ?_; simp only [zE, op1, ev, lkp, ah, ag, ev, reduceCtorEq, E, D, J, U, O, S, Try.td29, Dfa.av, Mly.av]; refine V _ ?_; clear V K0; simp only [put, app, aa, af, zE, zS, D])
  (refine aA rfl fun K0 V => ?_; simp only [zE, op1, ev, lkp, ah, ag, aE, aC, aD, ar, aB, aN, reduceCtorEq, E, D, J, U, O, S, Try.td29, Try.td4, Dfa.av, Mly.av]; (repeat refine And.intro (by first | omega | assumption | exact rfl) ?_); refine V _ ?_; clear V K0; simp only [put, app, aa, af, zE, zS, D])
  (refine ad rfl fun K0 V => ?_; simp only [zE, op1, ev, lkp, ah, ag, bm, reduceCtorEq, E, D, J, U, O, S, Try.td4, Dfa.av, Mly.av]; refine V _ ?_; clear V K0; simp only [put, app, aa, af, zE, zS, D])
  refine aj ?_
  refine ⟨by simp only [Y, lkp, zE, reduceCtorEq, E, Z, D]; exact rfl, rfl, ?_, rfl⟩; (repeat refine aV rfl ?_); exact bt (by exact rfl) hq26
 case b26 => exact bq (by first | rfl | (simp [bS]; done) | decide)
 simp only [bg, aX]
 (refine ad rfl fun K0 V => ?_; simp only [zE, op1, ev, lkp, ah, ag, ev, reduceCtorEq, E, D, J, U, O, S, Try.td4, Dfa.av, Mly.av]; refine V _ ?_; clear V K0; simp only [put, app, aa, af, zE, zS, D])
 refine' aU (want := true) 2 rfl (m := 141) (by simp only [Y, lkp, zE, reduceCtorEq, E, Z, D]; exact rfl) (by kernel_rfl) rfl rfl rfl rfl rfl (fun hg27 => ?a27) ?b27 ?c27
 case a27 =>
  have hq27 := hg27; (try simp only [zB, reduceCtorEq] at hg27); simp only [List.take_succ_cons, List.take_zero, List.cons_append, List.nil_append]
  (refine aA rfl fun K0 V => ?_; simp only [zE, op1, ev, lkp, ah, ag, ev, reduceCtorEq, E, D, J, U, O, S, Try.td4, Dfa.av, Mly.av]; refine V _ ?_; clear V K0; simp only [put, app, aa, af, zE, zS, D])
  (refine aA rfl fun K0 V => ?_; simp only [zE, op1, ev, lkp, ah, ag, gG, reduceCtorEq, E, D, J, U, O, S, Try.td4, Dfa.av, Mly.av]; (repeat refine And.intro (by first | omega | assumption | exact rfl) ?_); refine V _ ?_; clear V K0; simp only [put, app, aa, af, zE, zS, D])
  (refine ad rfl fun K0 V => ?_; simp only [zE, op1, ev, lkp, ah, ag, bm, reduceCtorEq, E, D, J, U, O, S, Try.td4, Dfa.av, Mly.av]; refine V _ ?_; clear V K0; simp only [put, app, aa, af, zE, zS, D])
  refine aj ?_
  refine ⟨by simp only [Y, lkp, zE, reduceCtorEq, E, Z, D]; exact rfl, rfl, ?_, rfl⟩; (repeat refine aV rfl ?_); exact bt (by exact rfl) hq27
 case b27 => exact bq (by first | rfl | (simp [bS]; done) | decide)
 simp only [bg, aX]
 (refine ad rfl fun K0 V => ?_; simp only [zE, op1, ev, lkp, ah, ag, ev, reduceCtorEq, E, D, J, U, O, S, Try.td4, Dfa.av, Mly.av]; refine V _ ?_; clear V K0; simp only [put, app, aa, af, zE, zS, D])
 refine' aU (want := true) 2 rfl (m := 145) (by simp only [Y, lkp, zE, reduceCtorEq, E, Z, D]; exact rfl) (by kernel_rfl) rfl rfl rfl rfl rfl (fun hg28 => ?a28) ?b28 ?c28
 case a28 =>
  have hq28 := hg28; (try simp only [zB, reduceCtorEq] at hg28); simp only [List.take_succ_cons, List.take_zero, List.cons_append, List.nil_append]
  (refine aA rfl fun K0 V => ?_; simp only [zE, op1, ev, lkp, ah, ag, ev, reduceCtorEq, E, D, J, U, O, S, Try.td29, Dfa.av, Mly.av]; refine V _ ?_; clear V K0; simp only [put, app, aa, af, zE, zS, D])
  (refine aA rfl fun K0 V => ?_; simp only [zE, op1, ev, lkp, ah, ag, aE, aC, aD, ar, aB, aN, reduceCtorEq, E, D, J, U, O, S, Try.td29, Try.td4, Dfa.av, Mly.av]; (repeat refine And.intro (by first | omega | assumption | exact rfl) ?_); refine V _ ?_; clear V K0; simp only [put, app, aa, af, zE, zS, D])
  (refine ad rfl fun K0 V => ?_; simp only [zE, op1, ev, lkp, ah, ag, bm, reduceCtorEq, E, D, J, U, O, S, Try.td4, Dfa.av, Mly.av]; refine V _ ?_; clear V K0; simp only [put, app, aa, af, zE, zS, D])
  refine aj ?_
  refine ⟨by simp only [Y, lkp, zE, reduceCtorEq, E, Z, D]; exact rfl, rfl, ?_, rfl⟩; (repeat refine aV rfl ?_); exact bt (by exact rfl) hq28
 case b28 => exact bq (by first | rfl | (simp [bS]; done) | decide)
 simp only [bg, aX]
 (refine ad rfl fun K0 V => ?_; simp only [zE, op1, ev, lkp, ah, ag, ev, reduceCtorEq, E, D, J, U, O, S, Try.td4, Dfa.av, Mly.av]; refine V _ ?_; clear V K0; simp only [put, app, aa, af, zE, zS, D])
 refine' aU (want := true) 6 rfl (m := 149) (by simp only [Y, lkp, zE, reduceCtorEq, E, Z, D]; exact rfl) (by kernel_rfl) rfl rfl rfl rfl rfl (fun hg29 => ?a29) ?b29 ?c29
 case a29 =>
  have hq29 := hg29; (try simp only [zB, reduceCtorEq] at hg29); simp only [List.take_succ_cons, List.take_zero, List.cons_append, List.nil_append]
  (refine aA rfl fun K0 V => ?_; simp only [zE, op1, ev, lkp, ah, ag, aw, reduceCtorEq, E, D, J, U, O, S, Try.st58, Try.td3, Try.td58, Dfa.av, Mly.av]; (repeat refine And.intro (by first | omega | assumption | exact rfl) ?_); refine V _ ?_; clear V K0; simp only [put, app, aa, af, zE, zS, D])
  (refine aA rfl fun K0 V => ?_; simp only [zE, op1, ev, lkp, ah, ag, az, Nat.mul_one, ax, ay, acs, Ty.dflt, zG, ao, reduceCtorEq, E, D, J, U, O, S, Try.el22, Try.td22, Dfa.av, Mly.av]; (repeat refine And.intro (by first | omega | assumption | exact rfl) ?_); refine V _ ?_; clear V K0; simp only [put, app, aa, af, zE, zS, D])
  (refine aA rfl fun K0 V => ?_; simp only [zE, op1, ev, lkp, ah, ag, bn, bh, ch, rep, aL, aQ, au, Ty.size, reduceCtorEq, E, D, J, U, O, S, Try.el26, Try.td2, Try.td26, Dfa.av, Mly.av]; (repeat refine And.intro (by first | omega | assumption | exact rfl) ?_); (first | refine V _ ?_ | refine Or.inl (V _ ?_)); clear V K0; simp only [put, app, aa, af, zE, zS, D])
  (refine aA rfl fun K0 V => ?_; simp only [zE, op1, ev, lkp, ah, ag, bn, bh, ch, rep, aL, aQ, au, Ty.size, reduceCtorEq, E, D, J, U, O, S, Try.el26, Try.td2, Try.td26, Dfa.av, Mly.av]; (repeat refine And.intro (by first | omega | assumption | exact rfl) ?_); (first | refine V _ ?_ | refine Or.inl (V _ ?_)); clear V K0; simp only [put, app, aa, af, zE, zS, D])
  (refine aA rfl fun K0 V => ?_; simp only [zE, op1, ev, lkp, ah, ag, bn, bh, ch, rep, aL, aQ, au, Ty.size, reduceCtorEq, E, D, J, U, O, S, Try.el22, Try.td2, Try.td22, Dfa.av, Mly.av]; (repeat refine And.intro (by first | omega | assumption | exact rfl) ?_); (first | refine V _ ?_ | refine Or.inl (V _ ?_)); clear V K0; simp only [put, app, aa, af, zE, zS, D])
  refine aA rfl fun K0 V => ?_
  refine aW (h := aG (ik (toM dEv).ot [[1, 0], [0, 1]])) rfl rfl (by first | exact rfl | (simp only [ev, Y, lkp, zE, reduceCtorEq, E, Z, D]; exact rfl)) (by simp only [zE, zG, op1, ev, lkp, ah, ag, au, acs, ba, mv1, mvC, Ty.dflt, reduceCtorEq, E, D, J, U, O, S, Dfa.av, Mly.av]) ?_
  refine V _ ?_; clear V K0; simp only [put, app, aa, af, zE, zS, D]
  (refine ad rfl fun K0 V => ?_; simp only [zE, op1, ev, lkp, ah, ag, bm, reduceCtorEq, E, D, J, U, O, S, Try.td4, Dfa.av, Mly.av]; refine V _ ?_; clear V K0; simp only [put, app, aa, af, zE, zS, D])
  refine aj ?_
  refine ⟨by simp only [Y, lkp, zE, reduceCtorEq, E, Z, D]; exact rfl, rfl, ?_, rfl⟩; (repeat refine aV rfl ?_); exact bt (by exact rfl) hq29
 case b29 => exact bq (by first | rfl | (simp [bS]; done) | decide)
 simp only [bg, aX]
 (refine ad rfl fun K0 V => ?_; simp only [zE, op1, ev, lkp, ah, ag, ev, reduceCtorEq, E, D, J, U, O, S, Try.td4, Dfa.av, Mly.av]; refine V _ ?_; clear V K0; simp only [put, app, aa, af, zE, zS, D])
 refine' aU (want := true) 2 rfl (m := 157) (by simp only [Y, lkp, zE, reduceCtorEq, E, Z, D]; exact rfl) (by kernel_rfl) rfl rfl rfl rfl rfl (fun hg30 => ?a30) ?b30 ?c30
 case a30 =>
  have hq30 := hg30; (try simp only [zB, reduceCtorEq] at hg30); simp only [List.take_succ_cons, List.take_zero, List.cons_append, List.nil_append]
  (refine aA rfl fun K0 V => ?_; simp only [zE, op1, ev, lkp, ah, ag, ev, reduceCtorEq, E, D, J, U, O, S, Try.td29, Dfa.av, Mly.av]; refine V _ ?_; clear V K0; simp only [put, app, aa, af, zE, zS, D])
  (refine aA rfl fun K0 V => ?_; simp only [zE, op1, ev, lkp, ah, ag, aE, aC, aD, ar, aB, aN, reduceCtorEq, E, D, J, U, O, S, Try.td29, Try.td4, Dfa.av, Mly.av]; (repeat refine And.intro (by first | omega | assumption | exact rfl) ?_); refine V _ ?_; clear V K0; simp only [put, app, aa, af, zE, zS, D])
  (refine ad rfl fun K0 V => ?_; simp only [zE, op1, ev, lkp, ah, ag, bm, reduceCtorEq, E, D, J, U, O, S, Try.td4, Dfa.av, Mly.av]; refine V _ ?_; clear V K0; simp only [put, app, aa, af, zE, zS, D])
  refine aj ?_
  refine ⟨by simp only [Y, lkp, zE, reduceCtorEq, E, Z, D]; exact rfl, rfl, ?_, rfl⟩; (repeat refine aV rfl ?_); exact bt (by exact rfl) hq30
 case b30 => exact bq (by first | rfl | (simp [bS]; done) | decide)
 simp only [bg, aX]
 (refine ad rfl fun K0 V => ?_; simp only [zE, op1, ev, lkp, ah, ag, ev, reduceCtorEq, E, D, J, U, O, S, Try.td4, Dfa.av, Mly.av]; refine V _ ?_; clear V K0; simp only [put, app, aa, af, zE, zS, D])
 refine' aU (want := true) 3 rfl (m := 161) (by simp only [Y, lkp, zE, reduceCtorEq, E, Z, D]; exact rfl) (by kernel_rfl) rfl rfl rfl rfl rfl (fun hg31 => ?a31) ?b31 ?c31
 case a31 =>
  have hq31 := hg31; (try simp only [zB, reduceCtorEq] at hg31); simp only [List.take_succ_cons, List.take_zero, List.cons_append, List.nil_append]
  (refine aA rfl fun K0 V => ?_; simp only [zE, op1, ev, lkp, ah, ag, az, Nat.mul_one, ax, ay, acs, Ty.dflt, zG, ao, reduceCtorEq, E, D, J, U, O, S, Try.st25, Try.td25, Dfa.av, Mly.av]; (repeat refine And.intro (by first | omega | assumption | exact rfl) ?_); refine V _ ?_; clear V K0; simp only [put, app, aa, af, zE, zS, D])
  (refine aA rfl fun K0 V => ?_; simp only [zE, op1, ev, lkp, ah, ag, az, Nat.mul_one, ax, ay, acs, Ty.dflt, zG, ao, reduceCtorEq, E, D, J, U, O, S, Try.st25, Try.td25, Dfa.av, Mly.av]; (repeat refine And.intro (by first | omega | assumption | exact rfl) ?_); refine V _ ?_; clear V K0; simp only [put, app, aa, af, zE, zS, D])
  refine aA rfl fun K0 V => ?_
  refine aW (h := aG (mW (fmD (toM dEv) true) dEv (by decide +kernel))) rfl rfl (by first | exact rfl | (simp only [ev, Y, lkp, zE, reduceCtorEq, E, Z, D]; exact rfl)) (by simp only [zE, zG, op1, ev, lkp, ah, ag, au, acs, ba, mv1, mvC, Ty.dflt, reduceCtorEq, E, D, J, U, O, S, Dfa.av, Mly.av]) ?_
  refine V _ ?_; clear V K0; simp only [put, app, aa, af, zE, zS, D]
  (refine ad rfl fun K0 V => ?_; simp only [zE, op1, ev, lkp, ah, ag, bm, reduceCtorEq, E, D, J, U, O, S, Try.td4, Dfa.av, Mly.av]; refine V _ ?_; clear V K0; simp only [put, app, aa, af, zE, zS, D])
  refine aj ?_
  refine ⟨by simp only [Y, lkp, zE, reduceCtorEq, E, Z, D]; exact rfl, rfl, ?_, rfl⟩; (repeat refine aV rfl ?_); exact bt (by exact rfl) hq31
 case b31 => exact bq (by first | rfl | (simp [bS]; done) | decide)
 simp only [bg, aX]
 (refine ad rfl fun K0 V => ?_; simp only [zE, op1, ev, lkp, ah, ag, ev, reduceCtorEq, E, D, J, U, O, S, Try.td4, Dfa.av, Mly.av]; refine V _ ?_; clear V K0; simp only [put, app, aa, af, zE, zS, D])
 refine' aU (want := true) 2 rfl (m := 166) (by simp only [Y, lkp, zE, reduceCtorEq, E, Z, D]; exact rfl) (by kernel_rfl) rfl rfl rfl rfl rfl (fun hg32 => ?a32) ?b32 ?c32
 case a32 =>
  have hq32 := hg32; (try simp only [zB, reduceCtorEq] at hg32); simp only [List.take_succ_cons, List.take_zero, List.cons_append, List.nil_append]
  (refine aA rfl fun K0 V => ?_; simp only [zE, op1, ev, lkp, ah, ag, ev, reduceCtorEq, E, D, J, U, O, S, Try.td29, Dfa.av, Mly.av]; refine V _ ?_; clear V K0; simp only [put, app, aa, af, zE, zS, D])
  (refine aA rfl fun K0 V => ?_; simp only [zE, op1, ev, lkp, ah, ag, aE, aC, aD, ar, aB, aN, reduceCtorEq, E, D, J, U, O, S, Try.td29, Try.td4, Dfa.av, Mly.av]; (repeat refine And.intro (by first | omega | assumption | exact rfl) ?_); refine V _ ?_; clear V K0; simp only [put, app, aa, af, zE, zS, D])
  (refine ad rfl fun K0 V => ?_; simp only [zE, op1, ev, lkp, ah, ag, bm, reduceCtorEq, E, D, J, U, O, S, Try.td4, Dfa.av, Mly.av]; refine V _ ?_; clear V K0; simp only [put, app, aa, af, zE, zS, D])
  refine aj ?_
  refine ⟨by simp only [Y, lkp, zE, reduceCtorEq, E, Z, D]; exact rfl, rfl, ?_, rfl⟩; (repeat refine aV rfl ?_); exact bt (by exact rfl) hq32
 case b32 => exact bq (by first | rfl | (simp [bS]; done) | decide)
 simp only [bg, aX]
 (refine ad rfl fun K0 V => ?_; simp only [zE, op1, ev, lkp, ah, ag, ev, reduceCtorEq, E, D, J, U, O, S, Try.td4, Dfa.av, Mly.av]; refine V _ ?_; clear V K0; simp only [put, app, aa, af, zE, zS, D])
 refine aj ?_
 refine hK13 _ ?_; clear hK13; refine ae [0, 1, 2, 3, 4, 5, 6, 7, 8, 9, 10, 11, 12, 13, 14, 16, 17, 19, 20, 21, 22, 23, 24] ?_; simp only [Y, lkp, zE, reduceCtorEq, E, Z, D]
 refine aI ?_
 refine ⟨by first | exact .inl rfl | exact .inr rfl, _, rfl, ?_⟩; simp only [fzV, fz1, fzC, List.map_cons, List.map_nil, Y, lkp, zE, reduceCtorEq, E, Z, D, Dfa.av, Mly.av]
 refine VLE.of_eq ?_
 refine congrArg (fun b => AV.one (AC.bool b)) ?_
 decide +kernel
end Go.Proofs.Ytdkgcbhbpdbmnaa
namespace Go.AV
open Nat renaming reduceEqDiff → E, reduceAdd → D, reduceLeDiff → J, reduceLT → U, reduceMul → O, reduceSub → S
open List renaming set_cons_zero → aq, set_cons_succ → am
/-plain-/
/-! Runs of composed machines. -/
theorem mP {m : Mly} (hm : MOK m) (w : List Int) : cQ m m.st w = bH w m.inp := fZ (jw hm) (by have := hm.s1; have := hm.s2; omega)
theorem pP {m : Mly} (hm : MOK m) {w : List Int} (h : bH w m.inp = 0) : ci m m.st w = (m.go m.st w).2 := by unfold ci; rw [mP hm, if_pos h]
structure PRL (a b M : Mly) (w : List Int) : Prop where
  v : bl M = 0
  st : M.st = 0
  re : M.reach.length = M.nx.length
  ea : cQ a a.st w = bH w a.inp
  eb : cQ b b.st w = bH w a.inp
  em : cQ M M.st w = bH w a.inp
  la : (ci a a.st w).length = (ci M M.st w).length
  lb : (ci b b.st w).length = (ci M M.st w).length
  at_ : ∀ i, i < (ci M M.st w).length → (ci M M.st w).getD i 0 = (ci a a.st w).getD i 0 * (1 + gr b) + (ci b b.st w).getD i 0
structure CAL (a b M : Mly) (w : List Int) : Prop where
  v : bl M = 0
  ea : cQ a a.st w = bH w a.inp
  em : cQ M M.st w = bH w a.inp
  eb : bH w a.inp = 0 → cQ b b.st (ci a a.st w) = 0
  vb : bH w a.inp = 0 → ci b b.st (ci a a.st w) = ci M M.st w
/-! Parallel. -/
def plU (n : Int) (w : List Int) : List Int := w.filter fun x => decide (x < n)
def plV (n : Int) (w : List Int) : List Int := (w.filter fun x => !decide (x < n)).map fun x => x - n
def plA (n : Int) (e : List (Int × Int)) : List Int := (e.filter fun x => decide (x.1 < n)).map (·.2)
def plB (n k : Int) (e : List (Int × Int)) : List Int := (e.filter fun x => !decide (x.1 < n)).map fun x => x.2 - 1 - k
structure PLL (a b M : Mly) (w : List Int) : Prop where
  v : bl M = 0
  inp : M.inp = a.inp + b.inp
  em : cQ M M.st w = bH w (a.inp + b.inp)
  lm : bH w (a.inp + b.inp) = 0 → (ci M M.st w).length = w.length
  ea : bH w (a.inp + b.inp) = 0 → cQ a a.st (plU a.inp w) = 0
  eb : bH w (a.inp + b.inp) = 0 → cQ b b.st (plV a.inp w) = 0
  va : bH w (a.inp + b.inp) = 0 → ci a a.st (plU a.inp w) = plA a.inp (w.zip (ci M M.st w))
  vb : bH w (a.inp + b.inp) = 0 → ci b b.st (plV a.inp w) = plB a.inp (gr a) (w.zip (ci M M.st w))
/-! Restrict and Map. -/
end Go.AV
namespace Go.Proofs.Ytdkgcbhbpdbmnaa
open Go Go.AV
open Nat renaming reduceEqDiff → E, reduceAdd → D, reduceLeDiff → J, reduceLT → U, reduceMul → O, reduceSub → S
open List renaming set_cons_zero → aq, set_cons_succ → am
set_option maxRecDepth 100000 in
theorem pq (d : Dfa) : bJ Try.prog 10 [d.av] (.one (.bool (grD d))) := by
 refine aS Try.func10 rfl (by kernel_rfl) (Nat.le_of_ble_eq_true rfl) rfl fun C hP hN hB => ?_
 replace hN : C.N = 32 := hN
 simp only [Z, D]
 refine ab fun K1 hK1 => ?_
 refine ai hP hN rfl ?_
 iterate 2 (refine ad rfl fun K0 V => ?_; simp only [zE, op1, ev, lkp, ah, ag, c0, au, reduceCtorEq, E, D, J, U, O, S, Try.st25, Try.td25, Try.td4, Dfa.av]; (repeat refine And.intro (by first | omega | assumption | exact rfl) ?_); refine V _ ?_; clear V K0; simp only [put, app, aa, af, zE, zS, D])
 refine aj ?_
 refine hK1 _ ?_; clear hK1; refine ae [0, 1, 2] ?_; simp only [Y, lkp, zE, reduceCtorEq, E, Z, D]
 refine ab fun K2 hK2 => ?_
 refine ab fun K3 hK3 => ?_
 refine ai hP hN rfl ?_
 (refine ad rfl fun K0 V => ?_; simp only [zE, op1, ev, lkp, ah, ag, ev, reduceCtorEq, E, D, J, U, O, S, Try.td3, Dfa.av]; refine V _ ?_; clear V K0; simp only [put, app, aa, af, zE, zS, D])
 refine aj ?_
 refine hK3 _ ?_; clear hK3; refine ae [0, 1, 2, 3] ?_; simp only [Y, lkp, zE, reduceCtorEq, E, Z, D]
 refine aP ?_
 refine bG (fun n4 s4 => ∃ (k : Nat), (k ≤ d.nx.length) ∧ (∀ q, q < k → (d.nx.getD q []).length ≤ 6) ∧ (k ≤ 13) ∧ n4 = d.nx.length - k ∧ s4 = { env := [(1, .one (.ptr 0 0 0 0)), (2, .one (.bool false)), (3, .one (.int .i64 (k : Int)))], L := [.vars 25 [.int .i64 d.inp, .int .i64 d.st, .list (.list (.int .i64)) d.nx, .list .bool d.acc]] }) ?_ ?_
 ·exact ⟨_, _, aO [1, 2, 3], 0, Nat.zero_le _, fun q hq => by omega, by omega, rfl, rfl⟩
 ·rintro n4 s4 ⟨k, hk, hq, hk7, rfl, rfl⟩
  refine ab fun K5 hK5 => ?_
  refine ab fun K6 hK6 => ?_
  refine ai hP hN rfl ?_
  iterate 5 (refine ad rfl fun K0 V => ?_; simp only [zE, op1, ev, lkp, ah, ag, aw, az, Nat.mul_one, ax, ay, acs, Ty.dflt, zG, ao, aH, bu, bb, aY, aZ, br, Nat.div_one, aM, b0, Ty.size, aL, dite_true, aE, aC, aD, ar, aB, aN, reduceCtorEq, E, D, J, U, O, S, Try.el22, Try.st25, Try.td2, Try.td22, Try.td25, Try.td3, Try.td4, Dfa.av]; (repeat refine And.intro (by first | omega | assumption | exact rfl) ?_); (first | refine V _ ?_ | refine Or.inl (V _ ?_)); clear V K0; simp only [put, app, aa, af, zE, zS, D])
  (refine ad rfl fun K0 V => ?_; simp only [zE, op1, ev, lkp, ah, ag, ev, reduceCtorEq, E, D, J, U, O, S, Try.td4, Dfa.av]; refine V _ ?_; clear V K0; simp only [put, app, aa, af, zE, zS, D])
  refine' aU (want := true) 2 rfl (m := 9) (by simp only [Y, lkp, zE, reduceCtorEq, E, Z, D]; exact rfl) (by kernel_rfl) rfl rfl rfl rfl rfl (fun hg7 => ?a7) ?b7 ?c7
  case a7 =>
   have hq7 := hg7; (try simp only [zB, reduceCtorEq] at hg7); simp only [List.take_succ_cons, List.take_zero, List.cons_append, List.nil_append]
   (refine aA rfl fun K0 V => ?_; simp only [zE, op1, ev, lkp, ah, ag, ev, reduceCtorEq, E, D, J, U, O, S, Try.td3, Dfa.av]; refine V _ ?_; clear V K0; simp only [put, app, aa, af, zE, zS, D])
   (refine aA rfl fun K0 V => ?_; simp only [zE, op1, ev, lkp, ah, ag, aE, aC, aD, ar, aB, aN, reduceCtorEq, E, D, J, U, O, S, Try.td3, Try.td4, Dfa.av]; (repeat refine And.intro (by first | omega | assumption | exact rfl) ?_); refine V _ ?_; clear V K0; simp only [put, app, aa, af, zE, zS, D])
   (refine ad rfl fun K0 V => ?_; simp only [zE, op1, ev, lkp, ah, ag, bm, reduceCtorEq, E, D, J, U, O, S, Try.td4, Dfa.av]; refine V _ ?_; clear V K0; simp only [put, app, aa, af, zE, zS, D])
   refine aj ?_
   refine ⟨by simp only [Y, lkp, zE, reduceCtorEq, E, Z, D]; exact rfl, rfl, ?_, rfl⟩; (repeat refine aV rfl ?_); exact bt (by exact rfl) hq7
  case b7 => exact bq (by first | rfl | (simp [bS]; done) | decide)
  simp only [bg, aX]
  refine aj ?_
  refine hK6 _ ?_; clear hK6; refine ae [1, 2, 3, 12] ?_; simp only [Y, lkp, zE, reduceCtorEq, E, Z, D]
  refine aF (by simp only [ev, Y, lkp, zE, reduceCtorEq, E, Z, D]; exact rfl) (fun hc8 => ?_) (fun hc8 => ?_)
  ·(try simp only [zB, reduceCtorEq] at hc8)
   refine aK ?_
   refine hK5 _ ?_; clear hK5; refine ae [1, 2, 3, 12] ?_; simp only [Y, lkp, zE, reduceCtorEq, E, Z, D]
   refine ab fun K9 hK9 => ?_
   refine aP ?_
   refine ab fun K10 hK10 => ?_
   refine ai hP hN rfl ?_
   iterate 7 (refine ad rfl fun K0 V => ?_; simp only [zE, op1, ev, lkp, ah, ag, aw, az, Nat.mul_one, ax, ay, acs, Ty.dflt, zG, ao, aJ, Ty.size, ne_eq, not_false_eq_true, Int.natCast_one, Int.mul_one, aH, bu, bb, aY, aZ, br, Nat.div_one, aM, b0, aL, dite_true, aE, aC, aD, ar, aB, aN, reduceCtorEq, E, D, J, U, O, S, Try.el22, Try.el26, Try.st25, Try.td2, Try.td22, Try.td25, Try.td26, Try.td3, Try.td4, Dfa.av]; (repeat refine And.intro (by first | omega | assumption | exact rfl) ?_); (first | refine V _ ?_ | refine Or.inl (V _ ?_)); clear V K0; simp only [put, app, aa, af, zE, zS, D])
   refine aj ?_
   refine hK10 _ ?_; clear hK10; refine ae [1, 2, 3, 12, 21] ?_; simp only [Y, lkp, zE, reduceCtorEq, E, Z, D]
   refine aF (by simp only [ev, Y, lkp, zE, reduceCtorEq, E, Z, D]; exact rfl) (fun hc11 => ?_) (fun hc11 => ?_)
   ·(try simp only [zB, reduceCtorEq] at hc11)
    refine ab fun K12 hK12 => ?_
    refine ai hP hN rfl ?_
    (refine ad rfl fun K0 V => ?_; simp only [zE, op1, ev, lkp, ah, ag, ev, reduceCtorEq, E, D, J, U, O, S, Try.td4, Dfa.av]; refine V _ ?_; clear V K0; simp only [put, app, aa, af, zE, zS, D])
    refine aj ?_
    refine hK12 _ ?_; clear hK12; refine ae [1, 2, 3, 12, 21] ?_; simp only [Y, lkp, zE, reduceCtorEq, E, Z, D]
    refine aI ?_
    refine ⟨by first | exact .inl rfl | exact .inr rfl, _, rfl, ?_⟩; simp only [fzV, fz1, fzC, List.map_cons, List.map_nil, Y, lkp, zE, reduceCtorEq, E, Z, D, Dfa.av]
    refine VLE.of_eq ?_
    refine congrArg (fun b => AV.one (AC.bool b)) ?_
    symm
    first
    | exact qh (k := k) (by omega) (by omega) (by omega)
    | exact ru (k := k) (by omega) hq
   ·(try simp only [zB, reduceCtorEq] at hc11)
    refine aK ?_
    refine hK9 _ ?_; clear hK9; refine ae [1, 2, 3, 12, 21] ?_; simp only [Y, lkp, zE, reduceCtorEq, E, Z, D]
    refine ai hP hN rfl ?_
    iterate 3 (refine ad rfl fun K0 V => ?_; simp only [zE, op1, ev, lkp, ah, ag, aE, aC, aD, ar, aB, aN, reduceCtorEq, E, D, J, U, O, S, Try.td3, Dfa.av]; (repeat refine And.intro (by first | omega | assumption | exact rfl) ?_); refine V _ ?_; clear V K0; simp only [put, app, aa, af, zE, zS, D])
    refine aj ?_
    refine ⟨_, _, ?_, aO [1, 2, 3], k + 1, by omega, fun q hq2 => ?_, by omega, rfl, rfl⟩
    · omega
    · by_cases e : q = k
      · rw [e]; omega
      · exact hq q (by omega)
  ·(try simp only [zB, reduceCtorEq] at hc8)
   refine bD ?_
   refine hK2 _ ?_; clear hK2; refine ae [1, 2, 3, 12] ?_; simp only [Y, lkp, zE, reduceCtorEq, E, Z, D]
   refine ab fun K13 hK13 => ?_
   refine ai hP hN rfl ?_
   iterate 4 (refine ad rfl fun K0 V => ?_; simp only [zE, op1, ev, lkp, ah, ag, aw, az, Nat.mul_one, ax, ay, acs, Ty.dflt, zG, ao, aH, bu, bb, aY, aZ, br, Nat.div_one, aM, b0, Ty.size, aL, dite_true, aE, aC, aD, ar, aB, aN, reduceCtorEq, E, D, J, U, O, S, Try.el22, Try.st25, Try.td2, Try.td22, Try.td25, Try.td3, Try.td4, Dfa.av]; (repeat refine And.intro (by first | omega | assumption | exact rfl) ?_); (first | refine V _ ?_ | refine Or.inl (V _ ?_)); clear V K0; simp only [put, app, aa, af, zE, zS, D])
   (refine ad rfl fun K0 V => ?_; simp only [zE, op1, ev, lkp, ah, ag, ev, reduceCtorEq, E, D, J, U, O, S, Try.td4, Dfa.av]; refine V _ ?_; clear V K0; simp only [put, app, aa, af, zE, zS, D])
   refine' aU (want := false) 4 rfl (m := 26) (by simp only [Y, lkp, zE, reduceCtorEq, E, Z, D]; exact rfl) (by kernel_rfl) rfl rfl rfl rfl rfl (fun hg14 => ?a14) ?b14 ?c14
   case a14 =>
    have hq14 := hg14; (try simp only [zB, reduceCtorEq] at hg14); simp only [List.take_succ_cons, List.take_zero, List.cons_append, List.nil_append]
    (refine aA rfl fun K0 V => ?_; simp only [zE, op1, ev, lkp, ah, ag, aw, reduceCtorEq, E, D, J, U, O, S, Try.st25, Try.td25, Try.td3, Dfa.av]; (repeat refine And.intro (by first | omega | assumption | exact rfl) ?_); refine V _ ?_; clear V K0; simp only [put, app, aa, af, zE, zS, D])
    (refine aA rfl fun K0 V => ?_; simp only [zE, op1, ev, lkp, ah, ag, az, Nat.mul_one, ax, ay, acs, Ty.dflt, zG, ao, reduceCtorEq, E, D, J, U, O, S, Try.el23, Try.td23, Dfa.av]; (repeat refine And.intro (by first | omega | assumption | exact rfl) ?_); refine V _ ?_; clear V K0; simp only [put, app, aa, af, zE, zS, D])
    (refine aA rfl fun K0 V => ?_; simp only [zE, op1, ev, lkp, ah, ag, aH, bu, bb, aY, aZ, br, Nat.div_one, aM, b0, Ty.size, aL, dite_true, reduceCtorEq, E, D, J, U, O, S, Try.el23, Try.td23, Try.td3, Dfa.av]; (repeat refine And.intro (by first | omega | assumption | exact rfl) ?_); (first | refine V _ ?_ | refine Or.inl (V _ ?_)); clear V K0; simp only [put, app, aa, af, zE, zS, D])
    (refine aA rfl fun K0 V => ?_; simp only [zE, op1, ev, lkp, ah, ag, aE, aC, aD, ar, aB, aN, reduceCtorEq, E, D, J, U, O, S, Try.td3, Try.td4, Dfa.av]; (repeat refine And.intro (by first | omega | assumption | exact rfl) ?_); refine V _ ?_; clear V K0; simp only [put, app, aa, af, zE, zS, D])
    (refine ad rfl fun K0 V => ?_; simp only [zE, op1, ev, lkp, ah, ag, bm, reduceCtorEq, E, D, J, U, O, S, Try.td4, Dfa.av]; refine V _ ?_; clear V K0; simp only [put, app, aa, af, zE, zS, D])
    refine aj ?_
    refine ⟨by simp only [Y, lkp, zE, reduceCtorEq, E, Z, D]; exact rfl, rfl, ?_, rfl⟩; (repeat refine aV rfl ?_); exact bt (by exact rfl) hq14
   case b14 => exact bq (by first | rfl | (simp [bS]; done) | decide)
   simp only [bg, aX]
   (refine ad rfl fun K0 V => ?_; simp only [zE, op1, ev, lkp, ah, ag, ev, reduceCtorEq, E, D, J, U, O, S, Try.td4, Dfa.av]; refine V _ ?_; clear V K0; simp only [put, app, aa, af, zE, zS, D])
   refine aj ?_
   refine hK13 _ ?_; clear hK13; refine ae [1, 2, 3, 12] ?_; simp only [Y, lkp, zE, reduceCtorEq, E, Z, D]
   refine aI ?_
   refine ⟨by first | exact .inl rfl | exact .inr rfl, _, rfl, ?_⟩; simp only [fzV, fz1, fzC, List.map_cons, List.map_nil, Y, lkp, zE, reduceCtorEq, E, Z, D, Dfa.av]
   refine VLE.of_eq ?_
   refine congrArg (fun b => AV.one (AC.bool b)) ?_
   symm
   first
   | exact qh (k := k) (by omega) (by omega) (by omega)
   | exact ru (k := k) (by omega) hq
end Go.Proofs.Ytdkgcbhbpdbmnaa
namespace Go.AV
open Nat renaming reduceEqDiff → E, reduceAdd → D, reduceLeDiff → J, reduceLT → U, reduceMul → O, reduceSub → S
open List renaming set_cons_zero → aq, set_cons_succ → am
/-plain-/
/-! On dmeqTh, dfmTh. -/
end Go.AV
namespace Go.AV
open Nat renaming reduceEqDiff → E, reduceAdd → D, reduceLeDiff → J, reduceLT → U, reduceMul → O, reduceSub → S
open List renaming set_cons_zero → aq, set_cons_succ → am
/-plain-/
/-! On dmeqTh, dfmTh, dselfTh. -/
theorem kD {n : Int} {w : List Int} (hn : 1 ≤ n ∧ n ≤ 1024) (hw : d6 n w) (hl : w.length ≤ 1024) : bH w n = 0 := fb hn.1 hn.2 ⟨hl, ml hw⟩
theorem kE {n : Int} {w : List Int} (h : bH w n = 0) : d6 n w := qA (jq h).sym
theorem rW {d : Dfa} {w : List Int} (hd : DOK d) (h : bH w d.inp = 0) : acV d w = d.ac (d.run d.st w) ∧ acE d w = 0 := by
  have := lE hd.valid h; exact ⟨this.2, this.1⟩
/-! Combinations. -/
/-! Differences. -/
/-! Counting. -/
def cV (d : Dfa) (k : Nat) : Int := (cL d k).getD d.st.toNat 0
structure CNT (d : Dfa) (k : Nat) : Prop where
  e1 : cuE d k = 0
  e2 : cuE (coD d) k = 0
  v1 : cuV d k = cV d k
  x0 : 0 ≤ cuV d k
  y0 : 0 ≤ cuV (coD d) k
  sm : cuV d k + cuV (coD d) k = d.inp ^ k
  pb : d.inp ^ k ≤ 205891132094649
  pp : 1 ≤ d.inp ^ k
def ry (d : Dfa) (k : Nat) : Int := match (List.range k).find? (fun j => decide (0 < cV d j)) with | some j => (j : Int) | none => -1
/-- The shortest accepted word. -/
structure SHO (d : Dfa) (k : Nat) : Prop where
  yes : 0 ≤ ry d k → j3 d = true ∧ ((gJ d).length : Int) = ry d k
  no : j3 d = false → ry d k < 0 ∧ gJ d = []
  ac : j3 d = true → acV d (gJ d) = true ∧ acE d (gJ d) = 0
/-! There and back. -/
theorem lJ {d : Dfa} (s : Int) (a : Int) (hs : s.toNat < d.nx.length) (ha : a.toNat < (d.nx.getD s.toNat []).length) : (d.om.getD s.toNat []).getD a.toNat 0 = bI1 (d.ac (d.dl s a)) := by
  have e1 : d.om.getD s.toNat [] = d.om1 (d.nx.getD s.toNat []) := by unfold Dfa.om; simp [List.getD, hs]
  rw [e1]
  unfold Dfa.om1 Dfa.dl Dfa.row bI1
  generalize d.nx.getD s.toNat [] = r at *
  simp [List.getD, ha]
structure TOM (d : Dfa) (M : Mly) : Prop where
  e : toE d = 0
  eq : M = ⟨d.inp, d.st, d.nx, d.om⟩
  ok : MOK M
theorem p2 {d : Dfa} (hd : DOK d) (hi : d.inp ≤ 64) : TOM d (toM d) := by
  have h := lw hd.valid (by omega)
  have i1 := hd.i1
  refine ⟨h.1, h.2, ?_⟩
  rw [h.2]
  have hr : ∀ s : Nat, s < d.nx.length → ((d.nx.getD s []).length : Int) = d.inp := fun s hs => hd.rl s hs
  have hc : ∀ s a : Nat, s < d.nx.length → (a : Int) < d.inp → 0 ≤ (d.nx.getD s []).getD a 0 ∧ (d.nx.getD s []).getD a 0 < d.nx.length := fun s a hs ha => hd.cl s a hs ha
  have ho : ∀ s : Nat, s < d.nx.length → d.om.getD s [] = d.om1 (d.nx.getD s []) := fun s hs => by unfold Dfa.om; simp [List.getD, hs]
  exact ⟨hd.i1, hi, hd.n1, hd.n2, hd.s1, hd.s2, js d, hr, fun s hs => by
    show ((d.om.getD s []).length : Int) = d.inp
    rw [ho s hs, jx]; exact hr s hs, hc, fun s a hs ha => by
    have := lJ (d := d) (s : Int) (a : Int) (by rw [Int.toNat_natCast]; exact hs) (by rw [Int.toNat_natCast, Int.toNat_natCast]; have h9 : (a : Int) < d.inp := ha; have h8 : ((d.nx.getD s []).length : Int) = d.inp := hr s hs; omega)
    rw [Int.toNat_natCast, Int.toNat_natCast] at this
    show 0 ≤ (d.om.getD s []).getD a 0 ∧ (d.om.getD s []).getD a 0 ≤ 1048576
    rw [this]
    unfold bI1; split <;> omega⟩
theorem n7 {d : Dfa} {M : Mly} (hM : TOM d M) (hd : DOK d) {s a : Int} (hs : 0 ≤ s ∧ s < d.nx.length) (ha : 0 ≤ a ∧ a < d.inp) : M.nxt s a = d.dl s a ∧ M.out s a = bI1 (d.ac (d.dl s a)) := by
  have hr := hd.rli hs
  have hr2 : ((d.nx.getD s.toNat []).length : Int) = d.inp := hr
  rw [hM.eq]
  exact ⟨rfl, lJ s a (by omega) (by omega)⟩
theorem oI {d : Dfa} {M : Mly} (hM : TOM d M) (hd : DOK d) : ∀ (w : List Int) (s : Int), 0 ≤ s ∧ s < d.nx.length → d6 d.inp w → ∀ i, i < w.length → (M.go s w).2.getD i 0 = bI1 (d.ac (d.run s (w.take (i + 1))))
  | [], _, _, _, i, hi => by simp at hi
  | x :: w, s, hs, hw, i, hi => by
    obtain ⟨hx, hw2⟩ := fC.1 hw
    obtain ⟨h1, h2⟩ := n7 hM hd hs hx
    rw [qq, h1, h2]
    have h3 := hd.dl hs hx
    cases i with
    | zero => simp [List.getD]; rfl
    | succ i =>
      have := oI hM hd w _ h3 hw2 i (by simpa using hi)
      show (M.go (d.dl s x) w).2.getD i 0 = bI1 (d.ac (d.run (d.dl s x) (w.take (i + 1))))
      exact this
theorem mm {d : Dfa} {M : Mly} (hM : TOM d M) (hd : DOK d) : ∀ (w : List Int) (s : Int), 0 ≤ s ∧ s < d.nx.length → d6 d.inp w → d7 (fK M) (s, bI1 (d.ac s)) w = (d.run s w, bI1 (d.ac (d.run s w)))
  | [], _, _, _ => rfl
  | x :: w, s, hs, hw => by
    obtain ⟨hx, hw2⟩ := fC.1 hw
    obtain ⟨h1, h2⟩ := n7 hM hd hs hx
    have e : ((x.toNat : Nat) : Int) = x := Int.toNat_of_nonneg hx.1
    show d7 (fK M) (M.nxt s (x.toNat : Nat), M.out s (x.toNat : Nat)) w = _
    rw [e, h1, h2]
    exact mm hM hd w _ (hd.dl hs hx) hw2
structure TRP (d : Dfa) (acc : Bool) : Prop where
  fe : fmE (toM d) acc = 0
  tw : dk (fmD (toM d) acc) d = 0
  nd : fR (fmD (toM d) acc) d = false
theorem sn {d : Dfa} (hd : DOK d) (hi : d.inp ≤ 64) (hn : d.nx.length ≤ 12) : TRP d (d.ac d.st) := by
  have hM := p2 hd hi
  have i1 := hd.i1; have i2 := hd.i2
  have hv := jw hM.ok
  have eN : (toM d).nx = d.nx := by rw [hM.eq]
  have eI : (toM d).inp = d.inp := by rw [hM.eq]
  have eS : (toM d).st = d.st := by rw [hM.eq]
  have hb : ¬ dJ (toM d) = true := pK hM.ok fun s a hs ha => by
    rw [eN] at hs; rw [eI] at ha
    have hr : ((d.nx.getD s []).length : Int) = d.inp := hd.rl s hs
    have := lJ (d := d) (s : Int) (a : Int) (by omega) (by rw [Int.toNat_natCast, Int.toNat_natCast]; omega)
    rw [Int.toNat_natCast, Int.toNat_natCast] at this
    rw [show (toM d).ot = d.om by rw [hM.eq], this]
    unfold bI1; split <;> omega
  have hin := jI hM.ok hb (n := (toM d).inp.toNat) (by omega)
  have h0 := lX hM.ok (d.ac d.st)
  have hle : (jQ (toM d) (d.ac d.st)).length ≤ (toM d).nx.length * 2 := ma hin h0
  rw [eN] at hle
  obtain ⟨g1, g2⟩ := jy (acc := d.ac d.st) hv hb
  have g3 : dBE (jQ (toM d) (d.ac d.st)) = 0 := if_neg (by omega)
  have g4 : fmD (toM d) (d.ac d.st) = dBn (fK (toM d)) gB (toM d).inp.toNat (jQ (toM d) (d.ac d.st)) := g2.trans (if_neg (by omega))
  have hok : DOK (fmD (toM d) (d.ac d.st)) := by
    rw [g4]; exact sr (mA hin h0) (by omega) (by omega) (pO _ _ _ _) (by omega)
  have hinp : (fmD (toM d) (d.ac d.st)).inp = d.inp := by rw [g4]; show (((toM d).inp.toNat : Nat) : Int) = d.inp; omega
  have ht : dk (fmD (toM d) (d.ac d.st)) d = 0 := by unfold dk; rw [if_pos hok.valid, if_pos hd.valid, if_pos hinp]
  refine ⟨g1.trans g3, ht, ?_⟩
  cases e : fR (fmD (toM d) (d.ac d.st)) d with
  | false => rfl
  | true =>
    obtain ⟨q1, q2⟩ := (pD ht).1 e
    rw [hinp] at q1
    have := pF (G := gB) hin h0 (w := eU (fmD (toM d) (d.ac d.st)) d) (by rw [eI, Int.toNat_of_nonneg (by omega)]; exact q1)
    have q3 : (fmD (toM d) (d.ac d.st)).ac ((fmD (toM d) (d.ac d.st)).run (fmD (toM d) (d.ac d.st)).st (eU (fmD (toM d) (d.ac d.st)) d)) = gB (d7 (fK (toM d)) ((toM d).st, bI1 (d.ac d.st)) (eU (fmD (toM d) (d.ac d.st)) d)) := by
      rw [← this, g4]; rfl
    rw [eS, mm hM hd _ _ ⟨hd.s1, hd.s2⟩ q1] at q3
    have q4 : ∀ x : Bool, gB ((0 : Int), bI1 x) = x := fun x => by cases x <;> rfl
    have q5 : ∀ (y : Int) (x : Bool), gB (y, bI1 x) = x := fun y x => by cases x <;> rfl
    rw [q5] at q3
    exact absurd q3 q2
end Go.AV
namespace Go.Proofs.Ytdkgcbhbpdbmnaa
open Go Go.AV
open Nat renaming reduceEqDiff → E, reduceAdd → D, reduceLeDiff → J, reduceLT → U, reduceMul → O, reduceSub → S
open List renaming set_cons_zero → aq, set_cons_succ → am
set_option maxRecDepth 100000 in
theorem sG (n : Int) : bJ Try.prog 52 [.one (.int .i64 n)] (.one (.bool (decide (1 ≤ n) && decide (n ≤ 1024)))) := by
 refine aS Try.func52 rfl (by kernel_rfl) (Nat.le_of_ble_eq_true rfl) rfl fun C hP hN hB => ?_
 replace hN : C.N = 9 := hN
 simp only [Z, D]
 refine ab fun K1 hK1 => ?_
 refine ai hP hN rfl ?_
 (refine ad rfl fun K0 V => ?_; simp only [zE, op1, ev, lkp, ah, ag, ev, reduceCtorEq, E, D, J, U, O, S, Try.td4]; refine V _ ?_; clear V K0; simp only [put, app, aa, af, zE, zS, D])
 refine aj ?_
 refine hK1 _ ?_; clear hK1; refine ae [0, 2] ?_; simp only [Y, lkp, zE, reduceCtorEq, E, Z, D]
 refine ab fun K2 hK2 => ?_
 refine ai hP hN rfl ?_
 iterate 2 (refine ad rfl fun K0 V => ?_; simp only [zE, op1, ev, lkp, ah, ag, aE, aC, aD, ar, aB, aN, reduceCtorEq, E, D, J, U, O, S, Try.td3, Try.td4]; (repeat refine And.intro (by first | omega | assumption | exact rfl) ?_); refine V _ ?_; clear V K0; simp only [put, app, aa, af, zE, zS, D])
 (refine ad rfl fun K0 V => ?_; simp only [zE, op1, ev, lkp, ah, ag, ev, reduceCtorEq, E, D, J, U, O, S, Try.td4]; refine V _ ?_; clear V K0; simp only [put, app, aa, af, zE, zS, D])
 refine' aU (want := true) 2 rfl (m := 5) (by simp only [Y, lkp, zE, reduceCtorEq, E, Z, D]; exact rfl) (by kernel_rfl) rfl rfl rfl rfl rfl (fun hg3 => ?a3) ?b3 ?c3
 case a3 =>
  have hq3 := hg3; (try simp only [zB, reduceCtorEq] at hg3); simp only [List.take_succ_cons, List.take_zero, List.cons_append, List.nil_append]
  (refine aA rfl fun K0 V => ?_; simp only [zE, op1, ev, lkp, ah, ag, ev, reduceCtorEq, E, D, J, U, O, S, Try.td3]; refine V _ ?_; clear V K0; simp only [put, app, aa, af, zE, zS, D])
  (refine aA rfl fun K0 V => ?_; simp only [zE, op1, ev, lkp, ah, ag, aE, aC, aD, ar, aB, aN, reduceCtorEq, E, D, J, U, O, S, Try.td3, Try.td4]; (repeat refine And.intro (by first | omega | assumption | exact rfl) ?_); refine V _ ?_; clear V K0; simp only [put, app, aa, af, zE, zS, D])
  (refine ad rfl fun K0 V => ?_; simp only [zE, op1, ev, lkp, ah, ag, bm, reduceCtorEq, E, D, J, U, O, S, Try.td4]; refine V _ ?_; clear V K0; simp only [put, app, aa, af, zE, zS, D])
  refine aj ?_
  refine ⟨by simp only [Y, lkp, zE, reduceCtorEq, E, Z, D]; exact rfl, rfl, ?_, rfl⟩; (repeat refine aV rfl ?_); exact bt (by exact rfl) hq3
 case b3 => exact bq (by first | rfl | (simp [bS]; done) | decide)
 simp only [bg, aX]
 (refine ad rfl fun K0 V => ?_; simp only [zE, op1, ev, lkp, ah, ag, ev, reduceCtorEq, E, D, J, U, O, S, Try.td4]; refine V _ ?_; clear V K0; simp only [put, app, aa, af, zE, zS, D])
 refine aj ?_
 refine hK2 _ ?_; clear hK2; refine ae [0, 2] ?_; simp only [Y, lkp, zE, reduceCtorEq, E, Z, D]
 refine aI ?_
 refine ⟨by first | exact .inl rfl | exact .inr rfl, _, rfl, ?_⟩; simp only [fzV, fz1, fzC, List.map_cons, List.map_nil, Y, lkp, zE, reduceCtorEq, E, Z, D]
 refine VLE.of_eq ?_
 rfl
end Go.Proofs.Ytdkgcbhbpdbmnaa
namespace Go.Proofs.Ytdkgcbhbpdbmnaa
open Go Go.AV
open Nat renaming reduceEqDiff → E, reduceAdd → D, reduceLeDiff → J, reduceLT → U, reduceMul → O, reduceSub → S
open List renaming set_cons_zero → aq, set_cons_succ → am
set_option maxRecDepth 100000 in
theorem l6 (w : List Int) (n : Int) : bJ Try.prog 36 [.one (.list (.int .i64) w), .one (.int .i64 n)] (.one (.int .i64 (bH w n))) := by
 refine aS Try.func36 rfl (by kernel_rfl) (Nat.le_of_ble_eq_true rfl) rfl fun C hP hN hB => ?_
 replace hN : C.N = 31 := hN
 simp only [Z, D]
 refine ab fun K1 hK1 => ?_
 refine ai hP hN rfl ?_
 (refine ad rfl fun K0 V => ?_; simp only [zE, op1, ev, lkp, ah, ag, ev, reduceCtorEq, E, D, J, U, O, S, Try.td3]; refine V _ ?_; clear V K0; simp only [put, app, aa, af, zE, zS, D])
 refine aj ?_
 refine hK1 _ ?_; clear hK1; refine ae [0, 1, 4] ?_; simp only [Y, lkp, zE, reduceCtorEq, E, Z, D]
 refine ab fun K2 hK2 => ?_
 refine ab fun K3 hK3 => ?_
 refine ai hP hN rfl ?_
 (refine ad rfl fun K0 V => ?_; simp only [zE, op1, ev, lkp, ah, ag, ev, reduceCtorEq, E, D, J, U, O, S, Try.td3]; refine V _ ?_; clear V K0; simp only [put, app, aa, af, zE, zS, D])
 refine ad rfl fun K0 V => ?_
 refine aW (h := aG (sG n)) rfl rfl (by first | exact rfl | (simp only [ev, Y, lkp, zE, reduceCtorEq, E, Z, D]; exact rfl)) (by simp only [zE, zG, op1, ev, lkp, ah, ag, au, acs, ba, mv1, mvC, Ty.dflt, reduceCtorEq, E, D, J, U, O, S]) ?_
 refine V _ ?_; clear V K0; simp only [put, app, aa, af, zE, zS, D]
 (refine ad rfl fun K0 V => ?_; simp only [zE, op1, ev, lkp, ah, ag, gG, reduceCtorEq, E, D, J, U, O, S, Try.td4]; (repeat refine And.intro (by first | omega | assumption | exact rfl) ?_); refine V _ ?_; clear V K0; simp only [put, app, aa, af, zE, zS, D])
 refine aj ?_
 refine hK3 _ ?_; clear hK3; refine ae [0, 1, 4, 8] ?_; simp only [Y, lkp, zE, reduceCtorEq, E, Z, D]
 refine aF (by simp only [ev, Y, lkp, zE, reduceCtorEq, E, Z, D]; exact rfl) (fun hc4 => ?_) (fun hc4 => ?_)
 ·(try simp only [zB, reduceCtorEq] at hc4)
  refine ab fun K5 hK5 => ?_
  refine ai hP hN rfl ?_
  (refine ad rfl fun K0 V => ?_; simp only [zE, op1, ev, lkp, ah, ag, ev, reduceCtorEq, E, D, J, U, O, S, Try.td3]; refine V _ ?_; clear V K0; simp only [put, app, aa, af, zE, zS, D])
  refine aj ?_
  refine hK5 _ ?_; clear hK5; refine ae [0, 1, 4, 8] ?_; simp only [Y, lkp, zE, reduceCtorEq, E, Z, D]
  refine aI ?_
  refine ⟨by first | exact .inl rfl | exact .inr rfl, _, rfl, ?_⟩; simp only [fzV, fz1, fzC, List.map_cons, List.map_nil, Y, lkp, zE, reduceCtorEq, E, Z, D]
  refine VLE.of_eq ?_
  refine congrArg (fun n => AV.one (AC.int IntKind.i64 n)) ?_
  symm
  first
  | (unfold bH; rw [if_pos (by omega)]; done)
  | (unfold bH; rw [if_neg (by omega), if_pos (by omega)]; done)
  | exact fG (by omega) (by omega) (by omega) (i := k) (by omega) (by omega)
  | exact fb (by omega) (by omega) ⟨by omega, fun i hi => hI i (by omega)⟩
 ·(try simp only [zB, reduceCtorEq] at hc4)
  refine aK ?_
  refine hK2 _ ?_; clear hK2; refine ae [0, 1, 4, 8] ?_; simp only [Y, lkp, zE, reduceCtorEq, E, Z, D]
  refine ab fun K6 hK6 => ?_
  refine ab fun K7 hK7 => ?_
  refine ai hP hN rfl ?_
  iterate 3 (refine ad rfl fun K0 V => ?_; simp only [zE, op1, ev, lkp, ah, ag, aH, bu, bb, aY, aZ, br, Nat.div_one, aM, b0, Ty.size, aL, dite_true, aE, aC, aD, ar, aB, aN, reduceCtorEq, E, D, J, U, O, S, Try.el26, Try.td26, Try.td3, Try.td4]; (repeat refine And.intro (by first | omega | assumption | exact rfl) ?_); (first | refine V _ ?_ | refine Or.inl (V _ ?_)); clear V K0; simp only [put, app, aa, af, zE, zS, D])
  refine aj ?_
  refine hK7 _ ?_; clear hK7; refine ae [0, 1, 4, 8, 11] ?_; simp only [Y, lkp, zE, reduceCtorEq, E, Z, D]
  refine aF (by simp only [ev, Y, lkp, zE, reduceCtorEq, E, Z, D]; exact rfl) (fun hc8 => ?_) (fun hc8 => ?_)
  ·(try simp only [zB, reduceCtorEq] at hc8)
   refine ab fun K9 hK9 => ?_
   refine ai hP hN rfl ?_
   (refine ad rfl fun K0 V => ?_; simp only [zE, op1, ev, lkp, ah, ag, ev, reduceCtorEq, E, D, J, U, O, S, Try.td3]; refine V _ ?_; clear V K0; simp only [put, app, aa, af, zE, zS, D])
   refine aj ?_
   refine hK9 _ ?_; clear hK9; refine ae [0, 1, 4, 8, 11] ?_; simp only [Y, lkp, zE, reduceCtorEq, E, Z, D]
   refine aI ?_
   refine ⟨by first | exact .inl rfl | exact .inr rfl, _, rfl, ?_⟩; simp only [fzV, fz1, fzC, List.map_cons, List.map_nil, Y, lkp, zE, reduceCtorEq, E, Z, D]
   refine VLE.of_eq ?_
   refine congrArg (fun n => AV.one (AC.int IntKind.i64 n)) ?_
   symm
   first
   | (unfold bH; rw [if_pos (by omega)]; done)
   | (unfold bH; rw [if_neg (by omega), if_pos (by omega)]; done)
   | exact fG (by omega) (by omega) (by omega) (i := k) (by omega) (by omega)
   | exact fb (by omega) (by omega) ⟨by omega, fun i hi => hI i (by omega)⟩
  ·(try simp only [zB, reduceCtorEq] at hc8)
   refine aK ?_
   refine hK6 _ ?_; clear hK6; refine ae [0, 1, 4, 8, 11] ?_; simp only [Y, lkp, zE, reduceCtorEq, E, Z, D]
   refine ab fun K10 hK10 => ?_
   refine ab fun K11 hK11 => ?_
   refine ai hP hN rfl ?_
   (refine ad rfl fun K0 V => ?_; simp only [zE, op1, ev, lkp, ah, ag, ev, reduceCtorEq, E, D, J, U, O, S, Try.td3]; refine V _ ?_; clear V K0; simp only [put, app, aa, af, zE, zS, D])
   refine aj ?_
   refine hK11 _ ?_; clear hK11; refine ae [0, 1, 4, 5, 8, 11] ?_; simp only [Y, lkp, zE, reduceCtorEq, E, Z, D]
   refine aP ?_
   refine bG (fun n12 s12 => ∃ (k : Nat), (k ≤ w.length) ∧ (∀ i, i < k → 0 ≤ w.getD i 0 ∧ w.getD i 0 < n) ∧ n12 = w.length - k ∧ s12 = { env := [(0, .one (.list (.int .i64) w)), (1, .one (.int .i64 n)), (5, .one (.int .i64 (k : Int)))], L := [] }) ?_ ?_
   ·exact ⟨_, _, aO [0, 1, 5], 0, Nat.zero_le _, fun i hi => by omega, rfl, rfl⟩
   ·rintro n12 s12 ⟨k, hk, hI, rfl, rfl⟩
    refine ab fun K13 hK13 => ?_
    refine ab fun K14 hK14 => ?_
    refine ai hP hN rfl ?_
    iterate 4 (refine ad rfl fun K0 V => ?_; simp only [zE, op1, ev, lkp, ah, ag, aH, bu, bb, aY, aZ, br, Nat.div_one, aM, b0, Ty.size, aL, dite_true, aE, aC, aD, ar, aB, aN, reduceCtorEq, E, D, J, U, O, S, Try.el26, Try.td26, Try.td3, Try.td4]; (repeat refine And.intro (by first | omega | assumption | exact rfl) ?_); (first | refine V _ ?_ | refine Or.inl (V _ ?_)); clear V K0; simp only [put, app, aa, af, zE, zS, D])
    refine aj ?_
    refine hK14 _ ?_; clear hK14; refine ae [0, 1, 5, 15] ?_; simp only [Y, lkp, zE, reduceCtorEq, E, Z, D]
    refine aF (by simp only [ev, Y, lkp, zE, reduceCtorEq, E, Z, D]; exact rfl) (fun hc15 => ?_) (fun hc15 => ?_)
    ·(try simp only [zB, reduceCtorEq] at hc15)
     refine aK ?_
     refine hK13 _ ?_; clear hK13; refine ae [0, 1, 5, 15] ?_; simp only [Y, lkp, zE, reduceCtorEq, E, Z, D]
     refine ab fun K16 hK16 => ?_
     refine aP ?_
     refine ab fun K17 hK17 => ?_
     refine ai hP hN rfl ?_
     iterate 5 (refine ad rfl fun K0 V => ?_; simp only [zE, op1, ev, lkp, ah, ag, aJ, zG, Ty.dflt, Ty.size, Nat.mul_one, ne_eq, not_false_eq_true, Int.natCast_one, Int.mul_one, az, ax, ay, acs, ao, aE, aC, aD, ar, aB, aN, reduceCtorEq, E, D, J, U, O, S, Try.el26, Try.td26, Try.td3, Try.td4]; (repeat refine And.intro (by first | omega | assumption | exact rfl) ?_); refine V _ ?_; clear V K0; simp only [put, app, aa, af, zE, zS, D])
     (refine ad rfl fun K0 V => ?_; simp only [zE, op1, ev, lkp, ah, ag, ev, reduceCtorEq, E, D, J, U, O, S, Try.td4]; refine V _ ?_; clear V K0; simp only [put, app, aa, af, zE, zS, D])
     refine' aU (want := false) 6 rfl (m := 23) (by simp only [Y, lkp, zE, reduceCtorEq, E, Z, D]; exact rfl) (by kernel_rfl) rfl rfl rfl rfl rfl (fun hg18 => ?a18) ?b18 ?c18
     case a18 =>
      have hq18 := hg18; (try simp only [zB, reduceCtorEq] at hg18); simp only [List.take_succ_cons, List.take_zero, List.cons_append, List.nil_append]
      (refine aA rfl fun K0 V => ?_; simp only [zE, op1, ev, lkp, ah, ag, ev, reduceCtorEq, E, D, J, U, O, S, Try.el26, Try.td26]; refine V _ ?_; clear V K0; simp only [put, app, aa, af, zE, zS, D])
      (refine aA rfl fun K0 V => ?_; simp only [zE, op1, ev, lkp, ah, ag, ev, reduceCtorEq, E, D, J, U, O, S, Try.td3]; refine V _ ?_; clear V K0; simp only [put, app, aa, af, zE, zS, D])
      (refine aA rfl fun K0 V => ?_; simp only [zE, op1, ev, lkp, ah, ag, aJ, zG, Ty.dflt, Ty.size, Nat.mul_one, ne_eq, not_false_eq_true, Int.natCast_one, Int.mul_one, reduceCtorEq, E, D, J, U, O, S, Try.el26, Try.td26]; (repeat refine And.intro (by first | omega | assumption | exact rfl) ?_); refine V _ ?_; clear V K0; simp only [put, app, aa, af, zE, zS, D])
      (refine aA rfl fun K0 V => ?_; simp only [zE, op1, ev, lkp, ah, ag, az, Nat.mul_one, ax, ay, acs, Ty.dflt, zG, ao, reduceCtorEq, E, D, J, U, O, S, Try.td3]; (repeat refine And.intro (by first | omega | assumption | exact rfl) ?_); refine V _ ?_; clear V K0; simp only [put, app, aa, af, zE, zS, D])
      (refine aA rfl fun K0 V => ?_; simp only [zE, op1, ev, lkp, ah, ag, ev, reduceCtorEq, E, D, J, U, O, S, Try.td3]; refine V _ ?_; clear V K0; simp only [put, app, aa, af, zE, zS, D])
      (refine aA rfl fun K0 V => ?_; simp only [zE, op1, ev, lkp, ah, ag, aE, aC, aD, ar, aB, aN, reduceCtorEq, E, D, J, U, O, S, Try.td3, Try.td4]; (repeat refine And.intro (by first | omega | assumption | exact rfl) ?_); refine V _ ?_; clear V K0; simp only [put, app, aa, af, zE, zS, D])
      (refine ad rfl fun K0 V => ?_; simp only [zE, op1, ev, lkp, ah, ag, bm, reduceCtorEq, E, D, J, U, O, S, Try.td4]; refine V _ ?_; clear V K0; simp only [put, app, aa, af, zE, zS, D])
      refine aj ?_
      refine ⟨by simp only [Y, lkp, zE, reduceCtorEq, E, Z, D]; exact rfl, rfl, ?_, rfl⟩; (repeat refine aV rfl ?_); exact bt (by exact rfl) hq18
     case b18 => exact bq (by first | rfl | (simp [bS]; done) | decide)
     simp only [bg, aX]
     refine aj ?_
     refine hK17 _ ?_; clear hK17; refine ae [0, 1, 5, 15, 30] ?_; simp only [Y, lkp, zE, reduceCtorEq, E, Z, D]
     refine aF (by simp only [ev, Y, lkp, zE, reduceCtorEq, E, Z, D]; exact rfl) (fun hc19 => ?_) (fun hc19 => ?_)
     ·(try simp only [zB, reduceCtorEq] at hc19)
      refine ab fun K20 hK20 => ?_
      refine ai hP hN rfl ?_
      (refine ad rfl fun K0 V => ?_; simp only [zE, op1, ev, lkp, ah, ag, ev, reduceCtorEq, E, D, J, U, O, S, Try.td3]; refine V _ ?_; clear V K0; simp only [put, app, aa, af, zE, zS, D])
      refine aj ?_
      refine hK20 _ ?_; clear hK20; refine ae [0, 1, 4, 5, 15, 30] ?_; simp only [Y, lkp, zE, reduceCtorEq, E, Z, D]
      refine aI ?_
      refine ⟨by first | exact .inl rfl | exact .inr rfl, _, rfl, ?_⟩; simp only [fzV, fz1, fzC, List.map_cons, List.map_nil, Y, lkp, zE, reduceCtorEq, E, Z, D]
      refine VLE.of_eq ?_
      refine congrArg (fun n => AV.one (AC.int IntKind.i64 n)) ?_
      symm
      first
      | (unfold bH; rw [if_pos (by omega)]; done)
      | (unfold bH; rw [if_neg (by omega), if_pos (by omega)]; done)
      | exact fG (by omega) (by omega) (by omega) (i := k) (by omega) (by omega)
      | exact fb (by omega) (by omega) ⟨by omega, fun i hi => hI i (by omega)⟩
     ·(try simp only [zB, reduceCtorEq] at hc19)
      refine aK ?_
      refine hK16 _ ?_; clear hK16; refine ae [0, 1, 5, 15, 30] ?_; simp only [Y, lkp, zE, reduceCtorEq, E, Z, D]
      refine ai hP hN rfl ?_
      iterate 3 (refine ad rfl fun K0 V => ?_; simp only [zE, op1, ev, lkp, ah, ag, aE, aC, aD, ar, aB, aN, reduceCtorEq, E, D, J, U, O, S, Try.td3]; (repeat refine And.intro (by first | omega | assumption | exact rfl) ?_); refine V _ ?_; clear V K0; simp only [put, app, aa, af, zE, zS, D])
      refine aj ?_
      refine ⟨_, _, ?_, aO [0, 1, 5], k + 1, by omega, fun i hi => ?_, rfl, rfl⟩
      · omega
      · by_cases e : i = k
        · rw [e]; omega
        · exact hI i (by omega)
    ·(try simp only [zB, reduceCtorEq] at hc15)
     refine bD ?_
     refine hK10 _ ?_; clear hK10; refine ae [0, 1, 5, 15] ?_; simp only [Y, lkp, zE, reduceCtorEq, E, Z, D]
     refine ab fun K21 hK21 => ?_
     refine ai hP hN rfl ?_
     (refine ad rfl fun K0 V => ?_; simp only [zE, op1, ev, lkp, ah, ag, ev, reduceCtorEq, E, D, J, U, O, S, Try.td3]; refine V _ ?_; clear V K0; simp only [put, app, aa, af, zE, zS, D])
     refine aj ?_
     refine hK21 _ ?_; clear hK21; refine ae [0, 1, 4, 5, 15] ?_; simp only [Y, lkp, zE, reduceCtorEq, E, Z, D]
     refine aI ?_
     refine ⟨by first | exact .inl rfl | exact .inr rfl, _, rfl, ?_⟩; simp only [fzV, fz1, fzC, List.map_cons, List.map_nil, Y, lkp, zE, reduceCtorEq, E, Z, D]
     refine VLE.of_eq ?_
     refine congrArg (fun n => AV.one (AC.int IntKind.i64 n)) ?_
     symm
     first
     | (unfold bH; rw [if_pos (by omega)]; done)
     | (unfold bH; rw [if_neg (by omega), if_pos (by omega)]; done)
     | exact fG (by omega) (by omega) (by omega) (i := k) (by omega) (by omega)
     | exact fb (by omega) (by omega) ⟨by omega, fun i hi => hI i (by omega)⟩
end Go.Proofs.Ytdkgcbhbpdbmnaa
namespace Go.Proofs.Ytdkgcbhbpdbmnaa
open Go Go.AV
open Nat renaming reduceEqDiff → E, reduceAdd → D, reduceLeDiff → J, reduceLT → U, reduceMul → O, reduceSub → S
open List renaming set_cons_zero → aq, set_cons_succ → am
set_option maxRecDepth 100000 in
theorem sd (m : Mly) (s : Int) (w : List Int) (hs : SOK m s) (hw : WOK w m.inp) : bJ Try.prog 87 [m.av, .one (.int .i64 s), .one (.list (.int .i64) w)] (.tup [.one (.list (.int .i64) (m.go s w).2), .one (.int .i64 (m.go s w).1)]) := by
 refine aS Try.func87 rfl (by kernel_rfl) (Nat.le_of_ble_eq_true rfl) rfl fun C hP hN hB => ?_
 replace hN : C.N = 43 := hN
 simp only [Z, D]
 refine ab fun K1 hK1 => ?_
 refine ai hP hN rfl ?_
 iterate 3 (refine ad rfl fun K0 V => ?_; simp only [zE, op1, ev, lkp, ah, ag, c0, au, reduceCtorEq, E, D, J, U, O, S, Try.el26, Try.st58, Try.td26, Try.td3, Try.td58, Mly.av]; (repeat refine And.intro (by first | omega | assumption | exact rfl) ?_); refine V _ ?_; clear V K0; simp only [put, app, aa, af, zE, zS, D])
 refine aj ?_
 refine hK1 _ ?_; clear hK1; refine ae [0, 1, 2, 3, 6, 7] ?_; simp only [Y, lkp, zE, reduceCtorEq, E, Z, D]
 refine ab fun K2 hK2 => ?_
 refine ai hP hN rfl ?_
 (refine ad rfl fun K0 V => ?_; simp only [zE, op1, ev, lkp, ah, ag, ev, reduceCtorEq, E, D, J, U, O, S, Try.el26, Try.td26, Mly.av]; refine V _ ?_; clear V K0; simp only [put, app, aa, af, zE, zS, D])
 refine aj ?_
 refine hK2 _ ?_; clear hK2; refine ae [0, 1, 2, 3, 6, 7, 8] ?_; simp only [Y, lkp, zE, reduceCtorEq, E, Z, D]
 refine ab fun K3 hK3 => ?_
 refine ab fun K4 hK4 => ?_
 refine ai hP hN rfl ?_
 (refine ad rfl fun K0 V => ?_; simp only [zE, op1, ev, lkp, ah, ag, ev, reduceCtorEq, E, D, J, U, O, S, Try.td3, Mly.av]; refine V _ ?_; clear V K0; simp only [put, app, aa, af, zE, zS, D])
 refine aj ?_
 refine hK4 _ ?_; clear hK4; refine ae [0, 1, 2, 3, 6, 7, 8, 9] ?_; simp only [Y, lkp, zE, reduceCtorEq, E, Z, D]
 refine aP ?_
 refine fP 8 (.int .i64) 3 (by decide) rfl ?_; simp only [List.length_cons, List.length_nil, List.cons_append, List.nil_append, Nat.zero_add, D]
 refine bG (fun n5 s5 => ∃ (k : Nat) (v : Nat), (k ≤ w.length) ∧ n5 = w.length - k ∧ s5 = { env := [(1, .one (.int .i64 (m.go s (w.take k)).1)), (2, .one (.list (.int .i64) w)), (3, .one (.ptr 0 0 0 0)), (8, .one (.row 1 v)), (9, .one (.int .i64 (k : Int)))], L := [.vars 58 [.int .i64 m.inp, .int .i64 m.st, .list (.list (.int .i64)) m.nx, .list (.list (.int .i64)) m.ot], .row (.int .i64) 3 v (m.go s (w.take k)).2] }) ?_ ?_
 ·exact ⟨_, _, aO [1, 2, 3, 8, 9], 0, 0, Nat.zero_le _, rfl, rfl⟩
 ·rintro n5 s5 ⟨k, v, hk, rfl, rfl⟩
  have hgo := sR hs.ok hs.s0 hs.s1 hw k hk; have hlen := hw.len; have hgl := ov m s (w.take k); rw [List.length_take] at hgl; have h1 := hs.ok.rl (m.go s (w.take k)).1.toNat (by omega); have h2 := hs.ok.ql (m.go s (w.take k)).1.toNat (by omega); have h3 := hs.ok.ol; have hsy := hw.sym k
  refine ab fun K6 hK6 => ?_
  refine ab fun K7 hK7 => ?_
  refine ai hP hN rfl ?_
  iterate 4 (refine ad rfl fun K0 V => ?_; simp only [zE, op1, ev, lkp, ah, ag, aH, bu, bb, aY, aZ, br, Nat.div_one, aM, b0, Ty.size, aL, dite_true, aE, aC, aD, ar, aB, aN, reduceCtorEq, E, D, J, U, O, S, Try.el26, Try.td26, Try.td3, Try.td4, Mly.av]; (repeat refine And.intro (by first | omega | assumption | exact rfl) ?_); (first | refine V _ ?_ | refine Or.inl (V _ ?_)); clear V K0; simp only [put, app, aa, af, zE, zS, D])
  refine aj ?_
  refine hK7 _ ?_; clear hK7; refine ae [1, 2, 3, 8, 9, 13] ?_; simp only [Y, lkp, zE, reduceCtorEq, E, Z, D]
  refine aF (by simp only [ev, Y, lkp, zE, reduceCtorEq, E, Z, D]; exact rfl) (fun hc8 => ?_) (fun hc8 => ?_)
  ·(try simp only [zB, reduceCtorEq] at hc8)
   refine aK ?_
   refine hK6 _ ?_; clear hK6; refine ae [1, 2, 3, 8, 9, 13] ?_; simp only [Y, lkp, zE, reduceCtorEq, E, Z, D]
   refine ab fun K9 hK9 => ?_
   refine aP ?_
   refine ab fun K10 hK10 => ?_
   refine bY hP hN Try.mixed rfl ?_
   iterate 15 (refine ad rfl fun K0 V => ?_; simp only [zE, op1, ev, lkp, ah, ag, aw, az, Nat.mul_one, ax, ay, acs, Ty.dflt, zG, ao, aJ, Ty.size, ne_eq, not_false_eq_true, Int.natCast_one, Int.mul_one, bn, bh, ch, rep, aL, aQ, au, aH, bu, bb, aY, aZ, br, Nat.div_one, aM, b0, dite_true, reduceCtorEq, E, D, J, U, O, S, Try.el22, Try.el26, Try.st58, Try.td1, Try.td22, Try.td26, Try.td3, Try.td58, Mly.av]; (repeat refine And.intro (by first | omega | assumption | exact rfl) ?_); (first | refine V _ ?_ | refine Or.inl (V _ ?_)); clear V K0; simp only [put, app, aa, af, zE, zS, D])
   refine aj ?_
   refine ⟨by kernel_rfl, ?_⟩
   refine hK10 _ ?_; clear hK10; refine ae [1, 2, 3, 8, 9, 13] ?_; simp only [Y, lkp, zE, reduceCtorEq, E, Z, D]
   refine bY hP hN Try.mixed rfl ?_
   iterate 12 (refine ad rfl fun K0 V => ?_; simp only [zE, op1, ev, lkp, ah, ag, aw, az, Nat.mul_one, ax, ay, acs, Ty.dflt, zG, ao, aJ, Ty.size, ne_eq, not_false_eq_true, Int.natCast_one, Int.mul_one, reduceCtorEq, E, D, J, U, O, S, Try.el22, Try.el26, Try.st58, Try.td2, Try.td22, Try.td26, Try.td3, Try.td58, Mly.av]; (repeat refine And.intro (by first | omega | assumption | exact rfl) ?_); refine V _ ?_; clear V K0; simp only [put, app, aa, af, zE, zS, D])
   refine aj ?_
   refine ⟨by kernel_rfl, ?_⟩
   refine hK9 _ ?_; clear hK9; refine ae [1, 2, 3, 8, 9, 13] ?_; simp only [Y, lkp, zE, reduceCtorEq, E, Z, D]
   refine ai hP hN rfl ?_
   iterate 3 (refine ad rfl fun K0 V => ?_; simp only [zE, op1, ev, lkp, ah, ag, aE, aC, aD, ar, aB, aN, reduceCtorEq, E, D, J, U, O, S, Try.td3, Mly.av]; (repeat refine And.intro (by first | omega | assumption | exact rfl) ?_); refine V _ ?_; clear V K0; simp only [put, app, aa, af, zE, zS, D])
   refine aj ?_
   refine ⟨_, _, ?_, aO [1, 2, 3, 8, 9], k + 1, v + 1, by omega, rfl, ?_⟩
   · omega
   · rw [mL m s (by omega)]; rfl
  ·(try simp only [zB, reduceCtorEq] at hc8)
   refine bD ?_
   refine hK3 _ ?_; clear hK3; refine ae [1, 2, 3, 8, 9, 13] ?_; simp only [Y, lkp, zE, reduceCtorEq, E, Z, D]
   refine ab fun K11 hK11 => ?_
   refine ai hP hN rfl ?_
   iterate 4 (refine ad rfl fun K0 V => ?_; simp only [zE, op1, ev, lkp, ah, ag, ev, reduceCtorEq, E, D, J, U, O, S, Try.el26, Try.td26, Try.td3, Mly.av]; refine V _ ?_; clear V K0; simp only [put, app, aa, af, zE, zS, D])
   refine aj ?_
   refine hK11 _ ?_; clear hK11; refine ae [1, 2, 3, 6, 7, 8, 9, 13] ?_; simp only [Y, lkp, zE, reduceCtorEq, E, Z, D]
   refine aI ?_
   refine ⟨by first | exact .inl rfl | exact .inr rfl, _, rfl, ?_⟩; simp only [fzV, fz1, fzC, List.map_cons, List.map_nil, Y, lkp, zE, reduceCtorEq, E, Z, D, Mly.av]
   refine VLE.of_eq ?_
   have htk : w.take k = w := by rw [show k = w.length by omega, List.take_length]
   rw [htk]; try simp
end Go.Proofs.Ytdkgcbhbpdbmnaa
