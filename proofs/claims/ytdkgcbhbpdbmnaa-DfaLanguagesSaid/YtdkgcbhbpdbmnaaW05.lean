/- Contracts of functions of this seat, each out of a walk through its code, and plain facts on what they compute. Conditions: those that each theorem names. -/
import Derived.Test.YtdkgcbhbpdbmnaaW04
set_option linter.unusedSimpArgs false
set_option linter.unusedVariables false
namespace Go.Proofs.Ytdkgcbhbpdbmnaa
open Go Go.AV
open Nat renaming reduceEqDiff → E, reduceAdd → D, reduceLeDiff → J, reduceLT → U, reduceMul → O, reduceSub → S
open List renaming set_cons_zero → ar, set_cons_succ → ao
set_option maxRecDepth 100000 in
theorem sN (d : Dfa) : bE Try.prog 31 [d.av] (.tup [(toM d).av, .one (.int .i64 (toE d))]) := by
 refine aV Try.func31 rfl (by kernel_rfl) (Nat.le_of_ble_eq_true rfl) rfl fun C hP hN hB => ?_
 replace hN : C.N = 68 := hN
 simp only [Z, D]
 refine ad fun K1 hK1 => ?_
 refine ai hP hN rfl ?_
 iterate 3 (refine ab rfl fun K0 V => ?_; simp only [zE, op1, ev, lkp, ah, ag, cd, aq, bI, reduceCtorEq, E, D, J, U, O, S, Try.st25, Try.st58, Try.td25, Try.td29, Try.td58, Dfa.av, Mly.av]; (repeat refine And.intro (by first | omega | assumption | exact rfl) ?_); (first | refine V _ ?_ | refine Or.inl (V _ ?_)); clear V K0; simp only [put, app, aa, af, zE, zS, D])
 refine aj ?_
 refine hK1 _ ?_; clear hK1; refine ae [0, 1, 2, 3] ?_; simp only [Y, lkp, zE, reduceCtorEq, E, Z, D]
 refine ad fun K2 hK2 => ?_
 refine ad fun K3 hK3 => ?_
 refine ai hP hN rfl ?_
 (refine ab rfl fun K0 V => ?_; simp only [zE, op1, ev, lkp, ah, ag, aA, Nat.mul_one, aw, az, acs, Ty.dflt, zG, au, reduceCtorEq, E, D, J, U, O, S, Try.st25, Try.td25, Dfa.av, Mly.av]; (repeat refine And.intro (by first | omega | assumption | exact rfl) ?_); refine V _ ?_; clear V K0; simp only [put, app, aa, af, zE, zS, D])
 refine ab rfl fun K0 V => ?_
 refine aU (h := aF (dm d)) rfl rfl (by first | exact rfl | (simp only [ev, Y, lkp, zE, reduceCtorEq, E, Z, D]; exact rfl)) (by simp only [zE, zG, op1, ev, lkp, ah, ag, aq, acs, aY, mv1, mvC, Ty.dflt, reduceCtorEq, E, D, J, U, O, S, Dfa.av, Mly.av]) ?_
 refine V _ ?_; clear V K0; simp only [put, app, aa, af, zE, zS, D]
 (refine ab rfl fun K0 V => ?_; simp only [zE, op1, ev, lkp, ah, ag, ev, reduceCtorEq, E, D, J, U, O, S, Try.td29, Dfa.av, Mly.av]; refine V _ ?_; clear V K0; simp only [put, app, aa, af, zE, zS, D])
 refine aj ?_
 refine hK3 _ ?_; clear hK3; refine ae [0, 1, 2, 3, 4] ?_; simp only [Y, lkp, zE, reduceCtorEq, E, Z, D]
 refine ad fun K4 hK4 => ?_
 refine ai hP hN rfl ?_
 iterate 2 (refine ab rfl fun K0 V => ?_; simp only [zE, op1, ev, lkp, ah, ag, aB, aC, aD, am, ay, aK, reduceCtorEq, E, D, J, U, O, S, Try.td29, Try.td4, Dfa.av, Mly.av]; (repeat refine And.intro (by first | omega | assumption | exact rfl) ?_); refine V _ ?_; clear V K0; simp only [put, app, aa, af, zE, zS, D])
 refine aj ?_
 refine hK4 _ ?_; clear hK4; refine ae [0, 1, 2, 3, 4, 15] ?_; simp only [Y, lkp, zE, reduceCtorEq, E, Z, D]
 refine aG (by simp only [ev, Y, lkp, zE, reduceCtorEq, E, Z, D]; exact rfl) (fun hc5 => ?_) (fun hc5 => ?_)
 ·(try simp only [zB, reduceCtorEq] at hc5)
  refine ad fun K6 hK6 => ?_
  refine ai hP hN rfl ?_
  iterate 4 (refine ab rfl fun K0 V => ?_; simp only [zE, op1, ev, lkp, ah, ag, bS, bj, aR, aq, bl, Nat.mul_one, aL, acs, Ty.size, Ty.dflt, zG, reduceCtorEq, E, D, J, U, O, S, Try.st58, Try.td29, Try.td58, Dfa.av, Mly.av]; (repeat refine And.intro (by first | omega | assumption | exact rfl) ?_); (first | refine V _ ?_ | refine Or.inl (V _ ?_)); clear V K0; simp only [put, app, aa, af, zE, zS, D])
  refine aj ?_
  refine hK6 _ ?_; clear hK6; refine ae [0, 1, 2, 3, 4, 15] ?_; simp only [Y, lkp, zE, reduceCtorEq, E, Z, D]
  refine aJ ?_
  refine ⟨by first | exact .inl rfl | exact .inr rfl, _, rfl, ?_⟩; simp only [fzV, fz1, fzC, List.map_cons, List.map_nil, Y, lkp, zE, reduceCtorEq, E, Z, D, Dfa.av, Mly.av]
  first
  | (have g9 := rN (by assumption); obtain ⟨g1, g2⟩ := g9; rw [g1, g2]; exact bK ⟨bP ⟨.refl _, .refl _, aX rfl, aX rfl, trivial⟩, bG (.refl _), trivial⟩)
  | (have g9 := ry hv (by omega); obtain ⟨g1, g2⟩ := g9; rw [g1, g2]; exact bK ⟨bP ⟨.refl _, .refl _, aX rfl, aX rfl, trivial⟩, bG (.refl _), trivial⟩)
  | (have g9 := nK hv (by omega); obtain ⟨g1, g2⟩ := g9; rw [g1, g2]; exact VLE.of_eq rfl)
 ·(try simp only [zB, reduceCtorEq] at hc5)
  have hv : bm d = 0 := by omega
  have hd := dK hv; have a1 := hd.i1; have a2 := hd.i2; have a3 := hd.n1; have a4 := hd.n2; have a5 := hd.s1; have a6 := hd.s2; have a7 := hd.al
  refine aH ?_
  refine hK2 _ ?_; clear hK2; refine ae [0, 1, 2, 3, 4, 15] ?_; simp only [Y, lkp, zE, reduceCtorEq, E, Z, D]
  refine ad fun K7 hK7 => ?_
  refine ad fun K8 hK8 => ?_
  refine ai hP hN rfl ?_
  iterate 3 (refine ab rfl fun K0 V => ?_; simp only [zE, op1, ev, lkp, ah, ag, aE, aA, Nat.mul_one, aw, az, acs, Ty.dflt, zG, au, aB, aC, aD, am, ay, aK, reduceCtorEq, E, D, J, U, O, S, Try.st25, Try.td25, Try.td3, Try.td4, Dfa.av, Mly.av]; (repeat refine And.intro (by first | omega | assumption | exact rfl) ?_); refine V _ ?_; clear V K0; simp only [put, app, aa, af, zE, zS, D])
  refine aj ?_
  refine hK8 _ ?_; clear hK8; refine ae [0, 1, 2, 3, 4, 15, 20] ?_; simp only [Y, lkp, zE, reduceCtorEq, E, Z, D]
  refine aG (by simp only [ev, Y, lkp, zE, reduceCtorEq, E, Z, D]; exact rfl) (fun hc9 => ?_) (fun hc9 => ?_)
  ·(try simp only [zB, reduceCtorEq] at hc9)
   refine ad fun K10 hK10 => ?_
   refine ai hP hN rfl ?_
   iterate 3 (refine ab rfl fun K0 V => ?_; simp only [zE, op1, ev, lkp, ah, ag, bS, bj, aR, aq, bl, Nat.mul_one, aL, acs, Ty.size, Ty.dflt, zG, reduceCtorEq, E, D, J, U, O, S, Try.st58, Try.td29, Try.td58, Dfa.av, Mly.av]; (repeat refine And.intro (by first | omega | assumption | exact rfl) ?_); (first | refine V _ ?_ | refine Or.inl (V _ ?_)); clear V K0; simp only [put, app, aa, af, zE, zS, D])
   refine aj ?_
   refine hK10 _ ?_; clear hK10; refine ae [0, 1, 2, 3, 4, 15, 20] ?_; simp only [Y, lkp, zE, reduceCtorEq, E, Z, D]
   refine aJ ?_
   refine ⟨by first | exact .inl rfl | exact .inr rfl, _, rfl, ?_⟩; simp only [fzV, fz1, fzC, List.map_cons, List.map_nil, Y, lkp, zE, reduceCtorEq, E, Z, D, Dfa.av, Mly.av]
   first
   | (have g9 := rN (by assumption); obtain ⟨g1, g2⟩ := g9; rw [g1, g2]; exact bK ⟨bP ⟨.refl _, .refl _, aX rfl, aX rfl, trivial⟩, bG (.refl _), trivial⟩)
   | (have g9 := ry hv (by omega); obtain ⟨g1, g2⟩ := g9; rw [g1, g2]; exact bK ⟨bP ⟨.refl _, .refl _, aX rfl, aX rfl, trivial⟩, bG (.refl _), trivial⟩)
   | (have g9 := nK hv (by omega); obtain ⟨g1, g2⟩ := g9; rw [g1, g2]; exact VLE.of_eq rfl)
  ·(try simp only [zB, reduceCtorEq] at hc9)
   refine aH ?_
   refine hK7 _ ?_; clear hK7; refine ae [0, 1, 2, 3, 4, 15, 20] ?_; simp only [Y, lkp, zE, reduceCtorEq, E, Z, D]
   refine ad fun K11 hK11 => ?_
   refine ai hP hN rfl ?_
   iterate 7 (refine ab rfl fun K0 V => ?_; simp only [zE, op1, ev, lkp, ah, ag, aE, aA, Nat.mul_one, aw, az, acs, Ty.dflt, zG, au, bS, bj, aR, aq, bI, bl, aL, Ty.size, reduceCtorEq, E, D, J, U, O, S, Try.st25, Try.st58, Try.td1, Try.td25, Try.td3, Try.td58, Dfa.av, Mly.av]; (repeat refine And.intro (by first | omega | assumption | exact rfl) ?_); (first | refine V _ ?_ | refine Or.inl (V _ ?_)); clear V K0; simp only [put, app, aa, af, zE, zS, D])
   refine aj ?_
   refine hK11 _ ?_; clear hK11; refine ae [0, 1, 2, 3, 4, 5, 15, 20] ?_; simp only [Y, lkp, zE, reduceCtorEq, E, Z, D]
   refine ad fun K12 hK12 => ?_
   refine ad fun K13 hK13 => ?_
   refine ai hP hN rfl ?_
   iterate 4 (refine ab rfl fun K0 V => ?_; simp only [zE, op1, ev, lkp, ah, ag, aE, aA, Nat.mul_one, aw, az, acs, Ty.dflt, zG, au, aI, bu, bh, ba, bc, br, Nat.div_one, aO, be, Ty.size, aL, dite_true, reduceCtorEq, E, D, J, U, O, S, Try.el22, Try.st25, Try.td2, Try.td22, Try.td25, Try.td3, Dfa.av, Mly.av]; (repeat refine And.intro (by first | omega | assumption | exact rfl) ?_); (first | refine V _ ?_ | refine Or.inl (V _ ?_)); clear V K0; simp only [put, app, aa, af, zE, zS, D])
   refine aj ?_
   refine hK13 _ ?_; clear hK13; refine ae [0, 1, 2, 3, 4, 5, 15, 20, 28, 29, 30] ?_; simp only [Y, lkp, zE, reduceCtorEq, E, Z, D]
   refine aS ?_
   refine da 2 2 (.list (.int .i64)) 26 (by decide) rfl rfl ?_; simp only [zS, List.length_cons, List.length_nil, List.cons_append, List.nil_append, Nat.zero_add, D]
   refine da 2 3 (.list (.int .i64)) 26 (by decide) rfl rfl ?_; simp only [zS, List.length_cons, List.length_nil, List.cons_append, List.nil_append, Nat.zero_add, D]
   refine bC (fun n14 s14 => ∃ (k : Nat) (v : Nat), (k ≤ d.nx.length) ∧ n14 = d.nx.length - k ∧ s14 = { env := [(1, .one (.ptr 0 0 0 0)), (2, .one (.ptr 1 0 0 0)), (3, .one (.int .i64 0)), (5, .one (.ptr 2 0 0 0)), (28, .one (.list (.list (.int .i64)) d.nx)), (29, .one (.int .i64 (d.nx.length : Int))), (30, .one (.int .i64 (k : Int)))], L := [.vars 25 [.int .i64 d.inp, .int .i64 d.st, .list (.list (.int .i64)) d.nx, .list .bool d.acc], .vars 58 [.int .i64 0, .int .i64 0, .nils, .nils], .vars 58 [.int .i64 d.inp, .int .i64 d.st, .row 3 v, .row 4 v], .row (.list (.int .i64)) 26 v (d.nx.take k), .row (.list (.int .i64)) 26 v (d.om.take k)] }) ?_ ?_
   ·exact ⟨_, _, aN [1, 2, 3, 5, 28, 29, 30], 0, 0, Nat.zero_le _, rfl, rfl⟩
   ·rintro n14 s14 ⟨k, v, hk, rfl, rfl⟩
    refine ad fun K15 hK15 => ?_
    refine ai hP hN rfl ?_
    (refine ab rfl fun K0 V => ?_; simp only [zE, op1, ev, lkp, ah, ag, aB, aC, aD, am, ay, aK, reduceCtorEq, E, D, J, U, O, S, Try.td3, Dfa.av, Mly.av]; (repeat refine And.intro (by first | omega | assumption | exact rfl) ?_); refine V _ ?_; clear V K0; simp only [put, app, aa, af, zE, zS, D])
    refine aj ?_
    refine hK15 _ ?_; clear hK15; refine ae [1, 2, 3, 5, 28, 29, 30, 31] ?_; simp only [Y, lkp, zE, reduceCtorEq, E, Z, D]
    refine ad fun K16 hK16 => ?_
    refine aG (by simp only [ev, Y, lkp, zE, reduceCtorEq, E, Z, D]; exact rfl) (fun hc17 => ?_) (fun hc17 => ?_)
    ·(try simp only [zB, reduceCtorEq] at hc17)
     refine aH ?_
     refine hK16 _ ?_; clear hK16; refine ae [1, 2, 3, 5, 28, 29, 30, 31] ?_; simp only [Y, lkp, zE, reduceCtorEq, E, Z, D]
     refine ad fun K18 hK18 => ?_
     refine aS ?_
     refine ad fun K19 hK19 => ?_
     have hrl : ((d.nx.getD k []).length : Int) = d.inp := hd.rl k (by omega)
     refine ai hP hN rfl ?_
     iterate 3 (refine ab rfl fun K0 V => ?_; simp only [zE, op1, ev, lkp, ah, ag, aM, zG, Ty.dflt, Ty.size, Nat.mul_one, ne_eq, not_false_eq_true, Int.natCast_one, Int.mul_one, aA, aw, az, acs, au, reduceCtorEq, E, D, J, U, O, S, Try.el22, Try.el26, Try.td22, Try.td26, Dfa.av, Mly.av]; (repeat refine And.intro (by first | omega | assumption | exact rfl) ?_); refine V _ ?_; clear V K0; simp only [put, app, aa, af, zE, zS, D])
     refine aj ?_
     refine hK19 _ ?_; clear hK19; refine ae [1, 2, 3, 5, 7, 28, 29, 30, 31] ?_; simp only [Y, lkp, zE, reduceCtorEq, E, Z, D]
     refine ad fun K20 hK20 => ?_
     refine ai hP hN rfl ?_
     iterate 4 (refine ab rfl fun K0 V => ?_; simp only [zE, op1, ev, lkp, ah, ag, aI, bu, bh, ba, bc, br, Nat.div_one, aO, be, Ty.size, aL, dite_true, cE, Ty.dflt, reduceCtorEq, E, D, J, U, O, S, Try.el26, Try.td26, Try.td3, Dfa.av, Mly.av]; (repeat refine And.intro (by first | omega | assumption | exact rfl) ?_); (first | refine V _ ?_ | refine Or.inl (V _ ?_)); clear V K0; simp only [put, app, aa, af, zE, zS, D])
     refine aj ?_
     refine hK20 _ ?_; clear hK20; refine ae [1, 2, 3, 5, 7, 8, 28, 29, 30, 31] ?_; simp only [Y, lkp, zE, reduceCtorEq, E, Z, D]
     refine ad fun K21 hK21 => ?_
     refine ad fun K22 hK22 => ?_
     refine ai hP hN rfl ?_
     iterate 3 (refine ab rfl fun K0 V => ?_; simp only [zE, op1, ev, lkp, ah, ag, aI, bu, bh, ba, bc, br, Nat.div_one, aO, be, Ty.size, aL, dite_true, reduceCtorEq, E, D, J, U, O, S, Try.el26, Try.td26, Try.td3, Dfa.av, Mly.av]; (repeat refine And.intro (by first | omega | assumption | exact rfl) ?_); (first | refine V _ ?_ | refine Or.inl (V _ ?_)); clear V K0; simp only [put, app, aa, af, zE, zS, D])
     refine aj ?_
     refine hK22 _ ?_; clear hK22; refine ae [1, 2, 3, 5, 7, 8, 28, 29, 30, 31, 37, 38, 39] ?_; simp only [Y, lkp, zE, reduceCtorEq, E, Z, D]
     refine aS ?_
     refine bC (fun n23 s23 => ∃ (j : Nat) (w : Nat), (j ≤ (d.nx.getD k []).length) ∧ n23 = (d.nx.getD k []).length - j ∧ s23 = { env := [(1, .one (.ptr 0 0 0 0)), (2, .one (.ptr 1 0 0 0)), (3, .one (.int .i64 0)), (5, .one (.ptr 2 0 0 0)), (7, .one (.list (.int .i64) (d.nx.getD k []))), (8, .one (.row 5 w)), (28, .one (.list (.list (.int .i64)) d.nx)), (29, .one (.int .i64 (d.nx.length : Int))), (30, .one (.int .i64 (k : Int))), (37, .one (.list (.int .i64) (d.nx.getD k []))), (38, .one (.int .i64 ((d.nx.getD k []).length : Int))), (39, .one (.int .i64 (j : Int)))], L := [.vars 25 [.int .i64 d.inp, .int .i64 d.st, .list (.list (.int .i64)) d.nx, .list .bool d.acc], .vars 58 [.int .i64 0, .int .i64 0, .nils, .nils], .vars 58 [.int .i64 d.inp, .int .i64 d.st, .row 3 v, .row 4 v], .row (.list (.int .i64)) 26 v (d.nx.take k), .row (.list (.int .i64)) 26 v (d.om.take k), .row (.int .i64) 3 w (d.om1 ((d.nx.getD k []).take j))] }) ?_ ?_
     ·exact ⟨_, _, aN [1, 2, 3, 5, 7, 8, 28, 29, 30, 37, 38, 39], 0, 0, Nat.zero_le _, rfl, rfl⟩
     ·rintro n23 s23 ⟨j, w, hj, rfl, rfl⟩
      refine ad fun K24 hK24 => ?_
      refine ai hP hN rfl ?_
      (refine ab rfl fun K0 V => ?_; simp only [zE, op1, ev, lkp, ah, ag, aB, aC, aD, am, ay, aK, reduceCtorEq, E, D, J, U, O, S, Try.td3, Dfa.av, Mly.av]; (repeat refine And.intro (by first | omega | assumption | exact rfl) ?_); refine V _ ?_; clear V K0; simp only [put, app, aa, af, zE, zS, D])
      refine aj ?_
      refine hK24 _ ?_; clear hK24; refine ae [1, 2, 3, 5, 7, 8, 28, 29, 30, 37, 38, 39, 40] ?_; simp only [Y, lkp, zE, reduceCtorEq, E, Z, D]
      refine ad fun K25 hK25 => ?_
      refine aG (by simp only [ev, Y, lkp, zE, reduceCtorEq, E, Z, D]; exact rfl) (fun hc26 => ?_) (fun hc26 => ?_)
      ·(try simp only [zB, reduceCtorEq] at hc26)
       refine aH ?_
       refine hK25 _ ?_; clear hK25; refine ae [1, 2, 3, 5, 7, 8, 28, 29, 30, 37, 38, 39, 40] ?_; simp only [Y, lkp, zE, reduceCtorEq, E, Z, D]
       refine ad fun K27 hK27 => ?_
       refine aS ?_
       refine ad fun K28 hK28 => ?_
       refine ai hP hN rfl ?_
       iterate 3 (refine ab rfl fun K0 V => ?_; simp only [zE, op1, ev, lkp, ah, ag, aM, zG, Ty.dflt, Ty.size, Nat.mul_one, ne_eq, not_false_eq_true, Int.natCast_one, Int.mul_one, aA, aw, az, acs, au, reduceCtorEq, E, D, J, U, O, S, Try.el26, Try.td26, Try.td3, Dfa.av, Mly.av]; (repeat refine And.intro (by first | omega | assumption | exact rfl) ?_); refine V _ ?_; clear V K0; simp only [put, app, aa, af, zE, zS, D])
       refine aj ?_
       refine hK28 _ ?_; clear hK28; refine ae [1, 2, 3, 5, 7, 8, 10, 28, 29, 30, 37, 38, 39, 40] ?_; simp only [Y, lkp, zE, reduceCtorEq, E, Z, D]
       refine ad fun K29 hK29 => ?_
       refine ai hP hN rfl ?_
       (refine ab rfl fun K0 V => ?_; simp only [zE, op1, ev, lkp, ah, ag, ev, reduceCtorEq, E, D, J, U, O, S, Try.td3, Dfa.av, Mly.av]; refine V _ ?_; clear V K0; simp only [put, app, aa, af, zE, zS, D])
       refine aj ?_
       refine hK29 _ ?_; clear hK29; refine ae [1, 2, 3, 5, 7, 8, 10, 11, 28, 29, 30, 37, 38, 39, 40] ?_; simp only [Y, lkp, zE, reduceCtorEq, E, Z, D]
       refine ad fun K30 hK30 => ?_
       refine ad fun K31 hK31 => ?_
       have hcl : 0 ≤ (d.nx.getD k []).getD j 0 ∧ (d.nx.getD k []).getD j 0 < d.nx.length := hd.cl k j (by omega) (by omega)
       refine ai hP hN rfl ?_
       iterate 5 (refine ab rfl fun K0 V => ?_; simp only [zE, op1, ev, lkp, ah, ag, aE, aA, Nat.mul_one, aw, az, acs, Ty.dflt, zG, au, aM, Ty.size, ne_eq, not_false_eq_true, Int.natCast_one, Int.mul_one, reduceCtorEq, E, D, J, U, O, S, Try.el23, Try.st25, Try.td23, Try.td25, Try.td3, Try.td4, Dfa.av, Mly.av]; (repeat refine And.intro (by first | omega | assumption | exact rfl) ?_); refine V _ ?_; clear V K0; simp only [put, app, aa, af, zE, zS, D])
       refine aj ?_
       refine hK31 _ ?_; clear hK31; refine ae [1, 2, 3, 5, 7, 8, 10, 11, 28, 29, 30, 37, 38, 39, 40, 47] ?_; simp only [Y, lkp, zE, reduceCtorEq, E, Z, D]
       refine aG (by simp only [ev, Y, lkp, zE, reduceCtorEq, E, Z, D]; exact rfl) (fun hc32 => ?_) (fun hc32 => ?_)
       ·(try simp only [zB, reduceCtorEq] at hc32)
        have hat : d.ac ((d.nx.getD k []).getD j 0) = true := hc32
        refine ai hP hN rfl ?_
        (refine ab rfl fun K0 V => ?_; simp only [zE, op1, ev, lkp, ah, ag, ev, reduceCtorEq, E, D, J, U, O, S, Try.td3, Dfa.av, Mly.av]; refine V _ ?_; clear V K0; simp only [put, app, aa, af, zE, zS, D])
        refine aj ?_
        refine hK30 _ ?_; clear hK30; refine ae [1, 2, 3, 5, 7, 8, 10, 11, 28, 29, 30, 37, 38, 39, 40, 47] ?_; simp only [Y, lkp, zE, reduceCtorEq, E, Z, D]
        refine ai hP hN rfl ?_
        iterate 5 (refine ab rfl fun K0 V => ?_; simp only [zE, op1, ev, lkp, ah, ag, bp, bj, bY, rep, aL, aR, aq, Ty.size, aI, bu, bh, ba, bc, br, Nat.div_one, aO, be, dite_true, reduceCtorEq, E, D, J, U, O, S, Try.el26, Try.td1, Try.td26, Try.td3, Dfa.av, Mly.av, mJ, List.length_take]; (repeat refine And.intro (by first | omega | assumption | exact rfl) ?_); (first | refine V _ ?_ | refine Or.inl (V _ ?_)); clear V K0; simp only [put, app, aa, af, zE, zS, D])
        refine aj ?_
        refine hK27 _ ?_; clear hK27; refine ae [1, 2, 3, 5, 7, 8, 10, 11, 28, 29, 30, 37, 38, 39, 40, 47] ?_; simp only [Y, lkp, zE, reduceCtorEq, E, Z, D]
        refine ai hP hN rfl ?_
        iterate 2 (refine ab rfl fun K0 V => ?_; simp only [zE, op1, ev, lkp, ah, ag, aB, aC, aD, am, ay, aK, reduceCtorEq, E, D, J, U, O, S, Try.td3, Dfa.av, Mly.av]; (repeat refine And.intro (by first | omega | assumption | exact rfl) ?_); refine V _ ?_; clear V K0; simp only [put, app, aa, af, zE, zS, D])
        refine aj ?_
        first
        | (refine ⟨_, _, ?_, aN [1, 2, 3, 5, 7, 8, 28, 29, 30, 37, 38, 39], j + 1, w + 1, by omega, rfl, ?_⟩
           · omega
           · rw [qW (by omega) hat]; rfl)
        | (refine ⟨_, _, ?_, aN [1, 2, 3, 5, 7, 8, 28, 29, 30, 37, 38, 39], j + 1, w + 1, by omega, rfl, ?_⟩
           · omega
           · rw [qV (by omega) hat]; rfl)
       ·(try simp only [zB, reduceCtorEq] at hc32)
        have hat : d.ac ((d.nx.getD k []).getD j 0) = false := by simpa [Dfa.ac] using hc32
        refine aH ?_
        refine hK30 _ ?_; clear hK30; refine ae [1, 2, 3, 5, 7, 8, 10, 11, 28, 29, 30, 37, 38, 39, 40, 47] ?_; simp only [Y, lkp, zE, reduceCtorEq, E, Z, D]
        refine ai hP hN rfl ?_
        iterate 5 (refine ab rfl fun K0 V => ?_; simp only [zE, op1, ev, lkp, ah, ag, bp, bj, bY, rep, aL, aR, aq, Ty.size, aI, bu, bh, ba, bc, br, Nat.div_one, aO, be, dite_true, reduceCtorEq, E, D, J, U, O, S, Try.el26, Try.td1, Try.td26, Try.td3, Dfa.av, Mly.av, mJ, List.length_take]; (repeat refine And.intro (by first | omega | assumption | exact rfl) ?_); (first | refine V _ ?_ | refine Or.inl (V _ ?_)); clear V K0; simp only [put, app, aa, af, zE, zS, D])
        refine aj ?_
        refine hK27 _ ?_; clear hK27; refine ae [1, 2, 3, 5, 7, 8, 10, 11, 28, 29, 30, 37, 38, 39, 40, 47] ?_; simp only [Y, lkp, zE, reduceCtorEq, E, Z, D]
        refine ai hP hN rfl ?_
        iterate 2 (refine ab rfl fun K0 V => ?_; simp only [zE, op1, ev, lkp, ah, ag, aB, aC, aD, am, ay, aK, reduceCtorEq, E, D, J, U, O, S, Try.td3, Dfa.av, Mly.av]; (repeat refine And.intro (by first | omega | assumption | exact rfl) ?_); refine V _ ?_; clear V K0; simp only [put, app, aa, af, zE, zS, D])
        refine aj ?_
        first
        | (refine ⟨_, _, ?_, aN [1, 2, 3, 5, 7, 8, 28, 29, 30, 37, 38, 39], j + 1, w + 1, by omega, rfl, ?_⟩
           · omega
           · rw [qW (by omega) hat]; rfl)
        | (refine ⟨_, _, ?_, aN [1, 2, 3, 5, 7, 8, 28, 29, 30, 37, 38, 39], j + 1, w + 1, by omega, rfl, ?_⟩
           · omega
           · rw [qV (by omega) hat]; rfl)
      ·(try simp only [zB, reduceCtorEq] at hc26)
       refine bB ?_
       refine hK21 _ ?_; clear hK21; refine ae [1, 2, 3, 5, 7, 8, 28, 29, 30, 37, 38, 39, 40] ?_; simp only [Y, lkp, zE, reduceCtorEq, E, Z, D]
       refine ad fun K33 hK33 => ?_
       refine de 5 rfl ?_; simp only [List.map_cons, List.map_nil, zS, E, and_self, and_true, true_and, and_false, false_and, if_true, if_false, eq_self, reduceCtorEq, Nat.one_ne_zero, Nat.zero_ne_one]
       have hjr : (d.nx.getD k []).take j = (d.nx.getD k []) := List.take_of_length_le (by omega)
       rw [hjr]
       refine ck hP hN Try.mixed rfl ?_
       iterate 3 (refine ab rfl fun K0 V => ?_; simp only [zE, op1, ev, lkp, ah, ag, aE, aA, Nat.mul_one, aw, az, acs, Ty.dflt, zG, au, reduceCtorEq, E, D, J, U, O, S, Try.el22, Try.el26, Try.st58, Try.td2, Try.td22, Try.td26, Try.td58, Dfa.av, Mly.av, List.length_take]; (repeat refine And.intro (by first | omega | assumption | exact rfl) ?_); refine V _ ?_; clear V K0; simp only [put, app, aa, af, zE, zS, D])
       refine ab rfl fun K0 V => ?_
       refine aU (h := aF (nc (d.nx.getD k []) (by omega))) rfl rfl (by first | exact rfl | (simp only [ev, Y, lkp, zE, reduceCtorEq, E, Z, D]; exact rfl)) (by simp only [zE, zG, op1, ev, lkp, ah, ag, aq, acs, aY, mv1, mvC, Ty.dflt, reduceCtorEq, E, D, J, U, O, S, Dfa.av, Mly.av, List.length_take]) ?_
       refine V _ ?_; clear V K0; simp only [put, app, aa, af, zE, zS, D]
       iterate 4 (refine ab rfl fun K0 V => ?_; simp only [zE, op1, ev, lkp, ah, ag, bp, bj, bY, rep, aL, aR, aq, Ty.size, aI, bu, bh, ba, bc, br, Nat.div_one, aO, be, dite_true, aE, bl, Nat.mul_one, acs, Ty.dflt, zG, reduceCtorEq, E, D, J, U, O, S, Try.el22, Try.st58, Try.td1, Try.td2, Try.td22, Try.td58, Dfa.av, Mly.av, List.length_take]; (repeat refine And.intro (by first | omega | assumption | exact rfl) ?_); (first | refine V _ ?_ | refine Or.inl (V _ ?_)); clear V K0; simp only [put, app, aa, af, zE, zS, D])
       refine aj ?_
       refine ⟨by kernel_rfl, ?_⟩
       refine hK33 _ ?_; clear hK33; refine ae [1, 2, 3, 5, 7, 8, 28, 29, 30, 37, 38, 39, 40] ?_; simp only [Y, lkp, zE, reduceCtorEq, E, Z, D]
       refine ai hP hN rfl ?_
       iterate 7 (refine ab rfl fun K0 V => ?_; simp only [zE, op1, ev, lkp, ah, ag, aE, aA, Nat.mul_one, aw, az, acs, Ty.dflt, zG, au, bp, bj, bY, rep, aL, aR, aq, Ty.size, aI, bu, bh, ba, bc, br, Nat.div_one, aO, be, dite_true, bl, reduceCtorEq, E, D, J, U, O, S, Try.el22, Try.el26, Try.st58, Try.td1, Try.td22, Try.td26, Try.td3, Try.td58, Dfa.av, Mly.av, List.length_take, oL]; (repeat refine And.intro (by first | omega | assumption | exact rfl) ?_); (first | refine V _ ?_ | refine Or.inl (V _ ?_)); clear V K0; simp only [put, app, aa, af, zE, zS, D])
       refine aj ?_
       refine hK18 _ ?_; clear hK18; refine ae [1, 2, 3, 5, 7, 8, 28, 29, 30, 37, 38, 39, 40] ?_; simp only [Y, lkp, zE, reduceCtorEq, E, Z, D]
       refine dX (n := 5) (L1 := [_, _, _, _, _]) rfl rfl (by rw [hB]; decide) rfl rfl ?_
       refine ai hP hN rfl ?_
       iterate 2 (refine ab rfl fun K0 V => ?_; simp only [zE, op1, ev, lkp, ah, ag, aB, aC, aD, am, ay, aK, reduceCtorEq, E, D, J, U, O, S, Try.td3, Dfa.av, Mly.av]; (repeat refine And.intro (by first | omega | assumption | exact rfl) ?_); refine V _ ?_; clear V K0; simp only [put, app, aa, af, zE, zS, D])
       refine aj ?_
       refine ⟨_, _, ?_, aN [1, 2, 3, 5, 28, 29, 30], k + 1, v + 1, by omega, rfl, ?_⟩
       · omega
       · rw [eX [] (by omega), qI (by omega)]; rfl
    ·(try simp only [zB, reduceCtorEq] at hc17)
     refine bB ?_
     refine hK12 _ ?_; clear hK12; refine ae [1, 2, 3, 5, 28, 29, 30, 31] ?_; simp only [Y, lkp, zE, reduceCtorEq, E, Z, D]
     refine ad fun K34 hK34 => ?_
     refine cB 3 2 rfl rfl ?_; simp only [List.map_cons, List.map_nil, frC, zS, E, and_self, and_true, true_and, and_false, false_and, if_true, if_false, eq_self, reduceCtorEq, Nat.one_ne_zero, Nat.zero_ne_one]
     refine cB 4 2 rfl rfl ?_; simp only [List.map_cons, List.map_nil, frC, zS, E, and_self, and_true, true_and, and_false, false_and, if_true, if_false, eq_self, reduceCtorEq, Nat.one_ne_zero, Nat.zero_ne_one]
     obtain rfl : k = d.nx.length := by omega
     rw [List.take_length, sG]
     refine ai hP hN rfl ?_
     iterate 3 (refine ab rfl fun K0 V => ?_; simp only [zE, op1, ev, lkp, ah, ag, aA, Nat.mul_one, aw, az, acs, Ty.dflt, zG, au, bl, aq, aR, aL, Ty.size, reduceCtorEq, E, D, J, U, O, S, Try.st58, Try.td29, Try.td58, Dfa.av, Mly.av]; (repeat refine And.intro (by first | omega | assumption | exact rfl) ?_); refine V _ ?_; clear V K0; simp only [put, app, aa, af, zE, zS, D])
     refine aj ?_
     refine hK34 _ ?_; clear hK34; refine ae [1, 2, 3, 5, 28, 29, 30, 31] ?_; simp only [Y, lkp, zE, reduceCtorEq, E, Z, D]
     refine aJ ?_
     refine ⟨by first | exact .inl rfl | exact .inr rfl, _, rfl, ?_⟩; simp only [fzV, fz1, fzC, List.map_cons, List.map_nil, Y, lkp, zE, reduceCtorEq, E, Z, D, Dfa.av, Mly.av]
     first
     | (have g9 := rN (by assumption); obtain ⟨g1, g2⟩ := g9; rw [g1, g2]; exact bK ⟨bP ⟨.refl _, .refl _, aX rfl, aX rfl, trivial⟩, bG (.refl _), trivial⟩)
     | (have g9 := ry hv (by omega); obtain ⟨g1, g2⟩ := g9; rw [g1, g2]; exact bK ⟨bP ⟨.refl _, .refl _, aX rfl, aX rfl, trivial⟩, bG (.refl _), trivial⟩)
     | (have g9 := nK hv (by omega); obtain ⟨g1, g2⟩ := g9; rw [g1, g2]; exact VLE.of_eq rfl)
end Go.Proofs.Ytdkgcbhbpdbmnaa
namespace Go.Proofs.Ytdkgcbhbpdbmnaa
open Go Go.AV
open Nat renaming reduceEqDiff → E, reduceAdd → D, reduceLeDiff → J, reduceLT → U, reduceMul → O, reduceSub → S
open List renaming set_cons_zero → ar, set_cons_succ → ao
set_option maxRecDepth 100000 in
set_option maxHeartbeats 2000000 in
theorem jW  : bE Try.prog 11 [] (.one (.bool true)) := by
 refine aV Try.func11 rfl (by kernel_rfl) (Nat.le_of_ble_eq_true rfl) rfl fun C hP hN hB => ?_
 replace hN : C.N = 170 := hN
 simp only [Z, D]
 refine ad fun K1 hK1 => ?_
 refine ai hP hN rfl ?_
 (refine ab rfl fun K0 V => ?_; simp only [zE, op1, ev, lkp, ah, ag, ev, reduceCtorEq, E, D, J, U, O, S, Try.td4, Dfa.av, Mly.av]; refine V _ ?_; clear V K0; simp only [put, app, aa, af, zE, zS, D])
 refine aj ?_
 refine hK1 _ ?_; clear hK1; refine ae [0] ?_; simp only [Y, lkp, zE, reduceCtorEq, E, Z, D]
 refine ad fun K2 hK2 => ?_
 refine ai hP hN rfl ?_
 refine ab rfl fun K0 V => ?_
 refine aU (h := aF pG) rfl rfl (by first | exact rfl | (simp only [ev, Y, lkp, zE, reduceCtorEq, E, Z, D]; exact rfl)) (by simp only [zE, zG, op1, ev, lkp, ah, ag, aq, acs, aY, mv1, mvC, Ty.dflt, reduceCtorEq, E, D, J, U, O, S, Dfa.av, Mly.av]) ?_
 refine V _ ?_; clear V K0; simp only [put, app, aa, af, zE, zS, D]
 iterate 2 (refine ab rfl fun K0 V => ?_; simp only [zE, op1, ev, lkp, ah, ag, bI, bl, Nat.mul_one, aq, aR, aL, acs, Ty.size, Ty.dflt, zG, reduceCtorEq, E, D, J, U, O, S, Try.st25, Try.td25, Dfa.av, Mly.av]; (repeat refine And.intro (by first | omega | assumption | exact rfl) ?_); (first | refine V _ ?_ | refine Or.inl (V _ ?_)); clear V K0; simp only [put, app, aa, af, zE, zS, D])
 refine aj ?_
 refine hK2 _ ?_; clear hK2; refine ae [0, 1] ?_; simp only [Y, lkp, zE, reduceCtorEq, E, Z, D]
 refine ad fun K3 hK3 => ?_
 refine ai hP hN rfl ?_
 (refine ab rfl fun K0 V => ?_; simp only [zE, op1, ev, lkp, ah, ag, aA, Nat.mul_one, aw, az, acs, Ty.dflt, zG, au, reduceCtorEq, E, D, J, U, O, S, Try.st25, Try.td25, Dfa.av, Mly.av]; (repeat refine And.intro (by first | omega | assumption | exact rfl) ?_); refine V _ ?_; clear V K0; simp only [put, app, aa, af, zE, zS, D])
 refine ab rfl fun K0 V => ?_
 refine aU (h := aF (rB dEv)) rfl rfl (by first | exact rfl | (simp only [ev, Y, lkp, zE, reduceCtorEq, E, Z, D]; exact rfl)) (by simp only [zE, zG, op1, ev, lkp, ah, ag, aq, acs, aY, mv1, mvC, Ty.dflt, reduceCtorEq, E, D, J, U, O, S, Dfa.av, Mly.av]) ?_
 refine V _ ?_; clear V K0; simp only [put, app, aa, af, zE, zS, D]
 iterate 6 (refine ab rfl fun K0 V => ?_; simp only [zE, op1, ev, lkp, ah, ag, bz, bI, bl, Nat.mul_one, aq, aR, aL, acs, Ty.size, Ty.dflt, zG, reduceCtorEq, E, D, J, U, O, S, Try.st25, Try.td1, Try.td25, Try.td29, Dfa.av, Mly.av]; (repeat refine And.intro (by first | omega | assumption | exact rfl) ?_); (first | refine V _ ?_ | refine Or.inl (V _ ?_)); clear V K0; simp only [put, app, aa, af, zE, zS, D])
 refine aj ?_
 refine hK3 _ ?_; clear hK3; refine ae [0, 1, 2, 3] ?_; simp only [Y, lkp, zE, reduceCtorEq, E, Z, D]
 refine ad fun K4 hK4 => ?_
 refine ai hP hN rfl ?_
 iterate 2 (refine ab rfl fun K0 V => ?_; simp only [zE, op1, ev, lkp, ah, ag, aA, Nat.mul_one, aw, az, acs, Ty.dflt, zG, au, bp, bj, bY, rep, aL, aR, aq, Ty.size, reduceCtorEq, E, D, J, U, O, S, Try.el26, Try.st25, Try.td25, Try.td26, Try.td3, Dfa.av, Mly.av]; (repeat refine And.intro (by first | omega | assumption | exact rfl) ?_); (first | refine V _ ?_ | refine Or.inl (V _ ?_)); clear V K0; simp only [put, app, aa, af, zE, zS, D])
 refine ab rfl fun K0 V => ?_
 refine aU (h := aF (di dEv [1, 0, 1])) rfl rfl (by first | exact rfl | (simp only [ev, Y, lkp, zE, reduceCtorEq, E, Z, D]; exact rfl)) (by simp only [zE, zG, op1, ev, lkp, ah, ag, aq, acs, aY, mv1, mvC, Ty.dflt, reduceCtorEq, E, D, J, U, O, S, Dfa.av, Mly.av]) ?_
 refine V _ ?_; clear V K0; simp only [put, app, aa, af, zE, zS, D]
 iterate 5 (refine ab rfl fun K0 V => ?_; simp only [zE, op1, ev, lkp, ah, ag, bz, reduceCtorEq, E, D, J, U, O, S, Try.td1, Try.td29, Try.td4, Dfa.av, Mly.av]; refine V _ ?_; clear V K0; simp only [put, app, aa, af, zE, zS, D])
 refine aj ?_
 refine hK4 _ ?_; clear hK4; refine ae [0, 1, 2, 3, 4, 5] ?_; simp only [Y, lkp, zE, reduceCtorEq, E, Z, D]
 refine ad fun K5 hK5 => ?_
 refine ai hP hN rfl ?_
 (refine ab rfl fun K0 V => ?_; simp only [zE, op1, ev, lkp, ah, ag, aA, Nat.mul_one, aw, az, acs, Ty.dflt, zG, au, reduceCtorEq, E, D, J, U, O, S, Try.st25, Try.td25, Dfa.av, Mly.av]; (repeat refine And.intro (by first | omega | assumption | exact rfl) ?_); refine V _ ?_; clear V K0; simp only [put, app, aa, af, zE, zS, D])
 refine ab rfl fun K0 V => ?_
 refine aU (h := aF (pX (coD dEv))) rfl rfl (by first | exact rfl | (simp only [ev, Y, lkp, zE, reduceCtorEq, E, Z, D]; exact rfl)) (by simp only [zE, zG, op1, ev, lkp, ah, ag, aq, acs, aY, mv1, mvC, Ty.dflt, reduceCtorEq, E, D, J, U, O, S, Dfa.av, Mly.av]) ?_
 refine V _ ?_; clear V K0; simp only [put, app, aa, af, zE, zS, D]
 iterate 7 (refine ab rfl fun K0 V => ?_; simp only [zE, op1, ev, lkp, ah, ag, bz, reduceCtorEq, E, D, J, U, O, S, Try.el26, Try.td1, Try.td2, Try.td26, Try.td29, Try.td4, Dfa.av, Mly.av]; refine V _ ?_; clear V K0; simp only [put, app, aa, af, zE, zS, D])
 refine aj ?_
 refine hK5 _ ?_; clear hK5; refine ae [0, 1, 2, 3, 4, 5, 6, 7, 8] ?_; simp only [Y, lkp, zE, reduceCtorEq, E, Z, D]
 refine ad fun K6 hK6 => ?_
 refine ai hP hN rfl ?_
 (refine ab rfl fun K0 V => ?_; simp only [zE, op1, ev, lkp, ah, ag, aA, Nat.mul_one, aw, az, acs, Ty.dflt, zG, au, reduceCtorEq, E, D, J, U, O, S, Try.st25, Try.td25, Dfa.av, Mly.av]; (repeat refine And.intro (by first | omega | assumption | exact rfl) ?_); refine V _ ?_; clear V K0; simp only [put, app, aa, af, zE, zS, D])
 refine ab rfl fun K0 V => ?_
 refine aU (h := aF (qa dEv 3)) rfl rfl (by first | exact rfl | (simp only [ev, Y, lkp, zE, reduceCtorEq, E, Z, D]; exact rfl)) (by simp only [zE, zG, op1, ev, lkp, ah, ag, aq, acs, aY, mv1, mvC, Ty.dflt, reduceCtorEq, E, D, J, U, O, S, Dfa.av, Mly.av]) ?_
 refine V _ ?_; clear V K0; simp only [put, app, aa, af, zE, zS, D]
 iterate 5 (refine ab rfl fun K0 V => ?_; simp only [zE, op1, ev, lkp, ah, ag, bz, reduceCtorEq, E, D, J, U, O, S, Try.td1, Try.td29, Try.td3, Dfa.av, Mly.av]; refine V _ ?_; clear V K0; simp only [put, app, aa, af, zE, zS, D])
 refine aj ?_
 refine hK6 _ ?_; clear hK6; refine ae [0, 1, 2, 3, 4, 5, 6, 7, 8, 9, 10] ?_; simp only [Y, lkp, zE, reduceCtorEq, E, Z, D]
 refine ad fun K7 hK7 => ?_
 refine ai hP hN rfl ?_
 iterate 2 (refine ab rfl fun K0 V => ?_; simp only [zE, op1, ev, lkp, ah, ag, aA, Nat.mul_one, aw, az, acs, Ty.dflt, zG, au, reduceCtorEq, E, D, J, U, O, S, Try.st25, Try.td25, Dfa.av, Mly.av]; (repeat refine And.intro (by first | omega | assumption | exact rfl) ?_); refine V _ ?_; clear V K0; simp only [put, app, aa, af, zE, zS, D])
 refine ab rfl fun K0 V => ?_
 refine aU (h := aF (ja 3 dEv (coD dEv))) rfl rfl (by first | exact rfl | (simp only [ev, Y, lkp, zE, reduceCtorEq, E, Z, D]; exact rfl)) (by simp only [zE, zG, op1, ev, lkp, ah, ag, aq, acs, aY, mv1, mvC, Ty.dflt, reduceCtorEq, E, D, J, U, O, S, Dfa.av, Mly.av]) ?_
 refine V _ ?_; clear V K0; simp only [put, app, aa, af, zE, zS, D]
 iterate 6 (refine ab rfl fun K0 V => ?_; simp only [zE, op1, ev, lkp, ah, ag, bz, bI, bl, Nat.mul_one, aq, aR, aL, acs, Ty.size, Ty.dflt, zG, reduceCtorEq, E, D, J, U, O, S, Try.st25, Try.td1, Try.td25, Try.td29, Dfa.av, Mly.av]; (repeat refine And.intro (by first | omega | assumption | exact rfl) ?_); (first | refine V _ ?_ | refine Or.inl (V _ ?_)); clear V K0; simp only [put, app, aa, af, zE, zS, D])
 refine aj ?_
 refine hK7 _ ?_; clear hK7; refine ae [0, 1, 2, 3, 4, 5, 6, 7, 8, 9, 10, 11, 12] ?_; simp only [Y, lkp, zE, reduceCtorEq, E, Z, D]
 refine ad fun K8 hK8 => ?_
 refine ai hP hN rfl ?_
 (refine ab rfl fun K0 V => ?_; simp only [zE, op1, ev, lkp, ah, ag, aA, Nat.mul_one, aw, az, acs, Ty.dflt, zG, au, reduceCtorEq, E, D, J, U, O, S, Try.st25, Try.td25, Dfa.av, Mly.av]; (repeat refine And.intro (by first | omega | assumption | exact rfl) ?_); refine V _ ?_; clear V K0; simp only [put, app, aa, af, zE, zS, D])
 refine ab rfl fun K0 V => ?_
 refine aU (h := aF (lS (cY 3 dEv (coD dEv)))) rfl rfl (by first | exact rfl | (simp only [ev, Y, lkp, zE, reduceCtorEq, E, Z, D]; exact rfl)) (by simp only [zE, zG, op1, ev, lkp, ah, ag, aq, acs, aY, mv1, mvC, Ty.dflt, reduceCtorEq, E, D, J, U, O, S, Dfa.av, Mly.av]) ?_
 refine V _ ?_; clear V K0; simp only [put, app, aa, af, zE, zS, D]
 iterate 6 (refine ab rfl fun K0 V => ?_; simp only [zE, op1, ev, lkp, ah, ag, bz, bI, bl, Nat.mul_one, aq, aR, aL, acs, Ty.size, Ty.dflt, zG, reduceCtorEq, E, D, J, U, O, S, Try.st25, Try.td1, Try.td25, Try.td29, Dfa.av, Mly.av]; (repeat refine And.intro (by first | omega | assumption | exact rfl) ?_); (first | refine V _ ?_ | refine Or.inl (V _ ?_)); clear V K0; simp only [put, app, aa, af, zE, zS, D])
 refine aj ?_
 refine hK8 _ ?_; clear hK8; refine ae [0, 1, 2, 3, 4, 5, 6, 7, 8, 9, 10, 11, 12, 13, 14] ?_; simp only [Y, lkp, zE, reduceCtorEq, E, Z, D]
 refine ad fun K9 hK9 => ?_
 refine ai hP hN rfl ?_
 iterate 2 (refine ab rfl fun K0 V => ?_; simp only [zE, op1, ev, lkp, ah, ag, aA, Nat.mul_one, aw, az, acs, Ty.dflt, zG, au, reduceCtorEq, E, D, J, U, O, S, Try.st25, Try.td25, Dfa.av, Mly.av]; (repeat refine And.intro (by first | omega | assumption | exact rfl) ?_); refine V _ ?_; clear V K0; simp only [put, app, aa, af, zE, zS, D])
 refine ab rfl fun K0 V => ?_
 refine aU (h := aF (kC dEv (coD dEv))) rfl rfl (by first | exact rfl | (simp only [ev, Y, lkp, zE, reduceCtorEq, E, Z, D]; exact rfl)) (by simp only [zE, zG, op1, ev, lkp, ah, ag, aq, acs, aY, mv1, mvC, Ty.dflt, reduceCtorEq, E, D, J, U, O, S, Dfa.av, Mly.av]) ?_
 refine V _ ?_; clear V K0; simp only [put, app, aa, af, zE, zS, D]
 iterate 7 (refine ab rfl fun K0 V => ?_; simp only [zE, op1, ev, lkp, ah, ag, bz, reduceCtorEq, E, D, J, U, O, S, Try.el26, Try.td1, Try.td2, Try.td26, Try.td29, Try.td4, Dfa.av, Mly.av]; refine V _ ?_; clear V K0; simp only [put, app, aa, af, zE, zS, D])
 refine aj ?_
 refine hK9 _ ?_; clear hK9; refine ae [0, 1, 2, 3, 4, 5, 6, 7, 8, 9, 10, 11, 12, 13, 14, 16, 17] ?_; simp only [Y, lkp, zE, reduceCtorEq, E, Z, D]
 refine ad fun K10 hK10 => ?_
 refine ai hP hN rfl ?_
 iterate 2 (refine ab rfl fun K0 V => ?_; simp only [zE, op1, ev, lkp, ah, ag, aA, Nat.mul_one, aw, az, acs, Ty.dflt, zG, au, reduceCtorEq, E, D, J, U, O, S, Try.st25, Try.td25, Dfa.av, Mly.av]; (repeat refine And.intro (by first | omega | assumption | exact rfl) ?_); refine V _ ?_; clear V K0; simp only [put, app, aa, af, zE, zS, D])
 refine ab rfl fun K0 V => ?_
 refine aU (h := aF (kC dEv dEv)) rfl rfl (by first | exact rfl | (simp only [ev, Y, lkp, zE, reduceCtorEq, E, Z, D]; exact rfl)) (by simp only [zE, zG, op1, ev, lkp, ah, ag, aq, acs, aY, mv1, mvC, Ty.dflt, reduceCtorEq, E, D, J, U, O, S, Dfa.av, Mly.av]) ?_
 refine V _ ?_; clear V K0; simp only [put, app, aa, af, zE, zS, D]
 iterate 7 (refine ab rfl fun K0 V => ?_; simp only [zE, op1, ev, lkp, ah, ag, bz, reduceCtorEq, E, D, J, U, O, S, Try.el26, Try.td1, Try.td2, Try.td26, Try.td29, Try.td4, Dfa.av, Mly.av]; refine V _ ?_; clear V K0; simp only [put, app, aa, af, zE, zS, D])
 refine aj ?_
 refine hK10 _ ?_; clear hK10; refine ae [0, 1, 2, 3, 4, 5, 6, 7, 8, 9, 10, 11, 12, 13, 14, 16, 17, 19, 20] ?_; simp only [Y, lkp, zE, reduceCtorEq, E, Z, D]
 refine ad fun K11 hK11 => ?_
 refine ai hP hN rfl ?_
 (refine ab rfl fun K0 V => ?_; simp only [zE, op1, ev, lkp, ah, ag, aA, Nat.mul_one, aw, az, acs, Ty.dflt, zG, au, reduceCtorEq, E, D, J, U, O, S, Try.st25, Try.td25, Dfa.av, Mly.av]; (repeat refine And.intro (by first | omega | assumption | exact rfl) ?_); refine V _ ?_; clear V K0; simp only [put, app, aa, af, zE, zS, D])
 refine ab rfl fun K0 V => ?_
 refine aU (h := aF (sN dEv)) rfl rfl (by first | exact rfl | (simp only [ev, Y, lkp, zE, reduceCtorEq, E, Z, D]; exact rfl)) (by simp only [zE, zG, op1, ev, lkp, ah, ag, aq, acs, aY, mv1, mvC, Ty.dflt, reduceCtorEq, E, D, J, U, O, S, Dfa.av, Mly.av]) ?_
 refine V _ ?_; clear V K0; simp only [put, app, aa, af, zE, zS, D]
 iterate 6 (refine ab rfl fun K0 V => ?_; simp only [zE, op1, ev, lkp, ah, ag, bz, bI, bl, Nat.mul_one, aq, aR, aL, acs, Ty.size, Ty.dflt, zG, reduceCtorEq, E, D, J, U, O, S, Try.st58, Try.td1, Try.td29, Try.td58, Dfa.av, Mly.av]; (repeat refine And.intro (by first | omega | assumption | exact rfl) ?_); (first | refine V _ ?_ | refine Or.inl (V _ ?_)); clear V K0; simp only [put, app, aa, af, zE, zS, D])
 refine aj ?_
 refine hK11 _ ?_; clear hK11; refine ae [0, 1, 2, 3, 4, 5, 6, 7, 8, 9, 10, 11, 12, 13, 14, 16, 17, 19, 20, 21, 22] ?_; simp only [Y, lkp, zE, reduceCtorEq, E, Z, D]
 refine ad fun K12 hK12 => ?_
 refine ai hP hN rfl ?_
 (refine ab rfl fun K0 V => ?_; simp only [zE, op1, ev, lkp, ah, ag, aA, Nat.mul_one, aw, az, acs, Ty.dflt, zG, au, reduceCtorEq, E, D, J, U, O, S, Try.st58, Try.td58, Dfa.av, Mly.av]; (repeat refine And.intro (by first | omega | assumption | exact rfl) ?_); refine V _ ?_; clear V K0; simp only [put, app, aa, af, zE, zS, D])
 refine ab rfl fun K0 V => ?_
 refine aU (h := aF (qD (toM dEv) true)) rfl rfl (by first | exact rfl | (simp only [ev, Y, lkp, zE, reduceCtorEq, E, Z, D]; exact rfl)) (by simp only [zE, zG, op1, ev, lkp, ah, ag, aq, acs, aY, mv1, mvC, Ty.dflt, reduceCtorEq, E, D, J, U, O, S, Dfa.av, Mly.av]) ?_
 refine V _ ?_; clear V K0; simp only [put, app, aa, af, zE, zS, D]
 iterate 6 (refine ab rfl fun K0 V => ?_; simp only [zE, op1, ev, lkp, ah, ag, bz, bI, bl, Nat.mul_one, aq, aR, aL, acs, Ty.size, Ty.dflt, zG, reduceCtorEq, E, D, J, U, O, S, Try.st25, Try.td1, Try.td25, Try.td29, Dfa.av, Mly.av]; (repeat refine And.intro (by first | omega | assumption | exact rfl) ?_); (first | refine V _ ?_ | refine Or.inl (V _ ?_)); clear V K0; simp only [put, app, aa, af, zE, zS, D])
 refine aj ?_
 refine hK12 _ ?_; clear hK12; refine ae [0, 1, 2, 3, 4, 5, 6, 7, 8, 9, 10, 11, 12, 13, 14, 16, 17, 19, 20, 21, 22, 23, 24] ?_; simp only [Y, lkp, zE, reduceCtorEq, E, Z, D]
 refine ad fun K13 hK13 => ?_
 refine ai hP hN rfl ?_
 iterate 2 (refine ab rfl fun K0 V => ?_; simp only [zE, op1, ev, lkp, ah, ag, aB, aC, aD, am, ay, aK, reduceCtorEq, E, D, J, U, O, S, Try.td29, Try.td4, Dfa.av, Mly.av]; (repeat refine And.intro (by first | omega | assumption | exact rfl) ?_); refine V _ ?_; clear V K0; simp only [put, app, aa, af, zE, zS, D])
 (refine ab rfl fun K0 V => ?_; simp only [zE, op1, ev, lkp, ah, ag, ev, reduceCtorEq, E, D, J, U, O, S, Try.td4, Dfa.av, Mly.av]; refine V _ ?_; clear V K0; simp only [put, app, aa, af, zE, zS, D])
 refine' aP (want := true) 1 rfl (m := 85) (by simp only [Y, lkp, zE, reduceCtorEq, E, Z, D]; exact rfl) (by kernel_rfl) rfl rfl rfl rfl rfl (fun hg14 => ?a14) ?b14 ?c14
 case a14 =>
  have hq14 := hg14; (try simp only [zB, reduceCtorEq] at hg14); simp only [List.take_succ_cons, List.take_zero, List.cons_append, List.nil_append]
  (refine ax rfl fun K0 V => ?_; simp only [zE, op1, ev, lkp, ah, ag, ev, reduceCtorEq, E, D, J, U, O, S, Try.td4, Dfa.av, Mly.av]; refine V _ ?_; clear V K0; simp only [put, app, aa, af, zE, zS, D])
  (refine ab rfl fun K0 V => ?_; simp only [zE, op1, ev, lkp, ah, ag, aZ, reduceCtorEq, E, D, J, U, O, S, Try.td4, Dfa.av, Mly.av]; refine V _ ?_; clear V K0; simp only [put, app, aa, af, zE, zS, D])
  refine aj ?_
  refine ⟨by simp only [Y, lkp, zE, reduceCtorEq, E, Z, D]; exact rfl, rfl, ?_, rfl⟩; (repeat refine aQ rfl ?_); exact bb (by exact rfl) hq14
 case b14 => exact b0 (by first | rfl | (simp [bD]; done) | decide)
 simp only [aW, aT]
 (refine ab rfl fun K0 V => ?_; simp only [zE, op1, ev, lkp, ah, ag, ev, reduceCtorEq, E, D, J, U, O, S, Try.td4, Dfa.av, Mly.av]; refine V _ ?_; clear V K0; simp only [put, app, aa, af, zE, zS, D])
 refine' aP (want := true) 2 rfl (m := 88) (by simp only [Y, lkp, zE, reduceCtorEq, E, Z, D]; exact rfl) (by kernel_rfl) rfl rfl rfl rfl rfl (fun hg15 => ?a15) ?b15 ?c15
 case a15 =>
  have hq15 := hg15; (try simp only [zB, reduceCtorEq] at hg15); simp only [List.take_succ_cons, List.take_zero, List.cons_append, List.nil_append]
  (refine ax rfl fun K0 V => ?_; simp only [zE, op1, ev, lkp, ah, ag, ev, reduceCtorEq, E, D, J, U, O, S, Try.td29, Dfa.av, Mly.av]; refine V _ ?_; clear V K0; simp only [put, app, aa, af, zE, zS, D])
  (refine ax rfl fun K0 V => ?_; simp only [zE, op1, ev, lkp, ah, ag, aB, aC, aD, am, ay, aK, reduceCtorEq, E, D, J, U, O, S, Try.td29, Try.td4, Dfa.av, Mly.av]; (repeat refine And.intro (by first | omega | assumption | exact rfl) ?_); refine V _ ?_; clear V K0; simp only [put, app, aa, af, zE, zS, D])
  (refine ab rfl fun K0 V => ?_; simp only [zE, op1, ev, lkp, ah, ag, aZ, reduceCtorEq, E, D, J, U, O, S, Try.td4, Dfa.av, Mly.av]; refine V _ ?_; clear V K0; simp only [put, app, aa, af, zE, zS, D])
  refine aj ?_
  refine ⟨by simp only [Y, lkp, zE, reduceCtorEq, E, Z, D]; exact rfl, rfl, ?_, rfl⟩; (repeat refine aQ rfl ?_); exact bb (by exact rfl) hq15
 case b15 => exact b0 (by first | rfl | (simp [bD]; done) | decide)
 simp only [aW, aT]
 (refine ab rfl fun K0 V => ?_; simp only [zE, op1, ev, lkp, ah, ag, ev, reduceCtorEq, E, D, J, U, O, S, Try.td4, Dfa.av, Mly.av]; refine V _ ?_; clear V K0; simp only [put, app, aa, af, zE, zS, D])
 refine' aP (want := true) 3 rfl (m := 92) (by simp only [Y, lkp, zE, reduceCtorEq, E, Z, D]; exact rfl) (by kernel_rfl) rfl rfl rfl rfl rfl (fun hg16 => ?a16) ?b16 ?c16
 case a16 =>
  have hq16 := hg16; (try simp only [zB, reduceCtorEq] at hg16); simp only [List.take_succ_cons, List.take_zero, List.cons_append, List.nil_append]
  (refine ax rfl fun K0 V => ?_; simp only [zE, op1, ev, lkp, ah, ag, ev, reduceCtorEq, E, D, J, U, O, S, Try.el26, Try.td26, Dfa.av, Mly.av]; refine V _ ?_; clear V K0; simp only [put, app, aa, af, zE, zS, D])
  (refine ax rfl fun K0 V => ?_; simp only [zE, op1, ev, lkp, ah, ag, bp, bj, bY, rep, aL, aR, aq, Ty.size, reduceCtorEq, E, D, J, U, O, S, Try.el26, Try.td1, Try.td26, Dfa.av, Mly.av]; (repeat refine And.intro (by first | omega | assumption | exact rfl) ?_); (first | refine V _ ?_ | refine Or.inl (V _ ?_)); clear V K0; simp only [put, app, aa, af, zE, zS, D])
  refine ax rfl fun K0 V => ?_
  refine aU (h := aF (oS (gJ (coD dEv)) [1])) rfl rfl (by first | exact rfl | (simp only [ev, Y, lkp, zE, reduceCtorEq, E, Z, D]; exact rfl)) (by simp only [zE, zG, op1, ev, lkp, ah, ag, aq, acs, aY, mv1, mvC, Ty.dflt, reduceCtorEq, E, D, J, U, O, S, Dfa.av, Mly.av]) ?_
  refine V _ ?_; clear V K0; simp only [put, app, aa, af, zE, zS, D]
  (refine ab rfl fun K0 V => ?_; simp only [zE, op1, ev, lkp, ah, ag, aZ, reduceCtorEq, E, D, J, U, O, S, Try.td4, Dfa.av, Mly.av]; refine V _ ?_; clear V K0; simp only [put, app, aa, af, zE, zS, D])
  refine aj ?_
  refine ⟨by simp only [Y, lkp, zE, reduceCtorEq, E, Z, D]; exact rfl, rfl, ?_, rfl⟩; (repeat refine aQ rfl ?_); exact bb (by exact rfl) hq16
 case b16 => exact b0 (by first | rfl | (simp [bD]; done) | decide)
 simp only [aW, aT]
 (refine ab rfl fun K0 V => ?_; simp only [zE, op1, ev, lkp, ah, ag, ev, reduceCtorEq, E, D, J, U, O, S, Try.td4, Dfa.av, Mly.av]; refine V _ ?_; clear V K0; simp only [put, app, aa, af, zE, zS, D])
 refine' aP (want := true) 1 rfl (m := 97) (by simp only [Y, lkp, zE, reduceCtorEq, E, Z, D]; exact rfl) (by kernel_rfl) rfl rfl rfl rfl rfl (fun hg17 => ?a17) ?b17 ?c17
 case a17 =>
  have hq17 := hg17; (try simp only [zB, reduceCtorEq] at hg17); simp only [List.take_succ_cons, List.take_zero, List.cons_append, List.nil_append]
  (refine ax rfl fun K0 V => ?_; simp only [zE, op1, ev, lkp, ah, ag, ev, reduceCtorEq, E, D, J, U, O, S, Try.td4, Dfa.av, Mly.av]; refine V _ ?_; clear V K0; simp only [put, app, aa, af, zE, zS, D])
  (refine ab rfl fun K0 V => ?_; simp only [zE, op1, ev, lkp, ah, ag, aZ, reduceCtorEq, E, D, J, U, O, S, Try.td4, Dfa.av, Mly.av]; refine V _ ?_; clear V K0; simp only [put, app, aa, af, zE, zS, D])
  refine aj ?_
  refine ⟨by simp only [Y, lkp, zE, reduceCtorEq, E, Z, D]; exact rfl, rfl, ?_, rfl⟩; (repeat refine aQ rfl ?_); exact bb (by exact rfl) hq17
 case b17 => exact b0 (by first | rfl | (simp [bD]; done) | decide)
 simp only [aW, aT]
 (refine ab rfl fun K0 V => ?_; simp only [zE, op1, ev, lkp, ah, ag, ev, reduceCtorEq, E, D, J, U, O, S, Try.td4, Dfa.av, Mly.av]; refine V _ ?_; clear V K0; simp only [put, app, aa, af, zE, zS, D])
 refine' aP (want := true) 2 rfl (m := 100) (by simp only [Y, lkp, zE, reduceCtorEq, E, Z, D]; exact rfl) (by kernel_rfl) rfl rfl rfl rfl rfl (fun hg18 => ?a18) ?b18 ?c18
 case a18 =>
  have hq18 := hg18; (try simp only [zB, reduceCtorEq] at hg18); simp only [List.take_succ_cons, List.take_zero, List.cons_append, List.nil_append]
  (refine ax rfl fun K0 V => ?_; simp only [zE, op1, ev, lkp, ah, ag, ev, reduceCtorEq, E, D, J, U, O, S, Try.td29, Dfa.av, Mly.av]; refine V _ ?_; clear V K0; simp only [put, app, aa, af, zE, zS, D])
  (refine ax rfl fun K0 V => ?_; simp only [zE, op1, ev, lkp, ah, ag, aB, aC, aD, am, ay, aK, reduceCtorEq, E, D, J, U, O, S, Try.td29, Try.td4, Dfa.av, Mly.av]; (repeat refine And.intro (by first | omega | assumption | exact rfl) ?_); refine V _ ?_; clear V K0; simp only [put, app, aa, af, zE, zS, D])
  (refine ab rfl fun K0 V => ?_; simp only [zE, op1, ev, lkp, ah, ag, aZ, reduceCtorEq, E, D, J, U, O, S, Try.td4, Dfa.av, Mly.av]; refine V _ ?_; clear V K0; simp only [put, app, aa, af, zE, zS, D])
  refine aj ?_
  refine ⟨by simp only [Y, lkp, zE, reduceCtorEq, E, Z, D]; exact rfl, rfl, ?_, rfl⟩; (repeat refine aQ rfl ?_); exact bb (by exact rfl) hq18
 case b18 => exact b0 (by first | rfl | (simp [bD]; done) | decide)
 simp only [aW, aT]
 (refine ab rfl fun K0 V => ?_; simp only [zE, op1, ev, lkp, ah, ag, ev, reduceCtorEq, E, D, J, U, O, S, Try.td4, Dfa.av, Mly.av]; refine V _ ?_; clear V K0; simp only [put, app, aa, af, zE, zS, D])
 refine' aP (want := true) 2 rfl (m := 104) (by simp only [Y, lkp, zE, reduceCtorEq, E, Z, D]; exact rfl) (by kernel_rfl) rfl rfl rfl rfl rfl (fun hg19 => ?a19) ?b19 ?c19
 case a19 =>
  have hq19 := hg19; (try simp only [zB, reduceCtorEq] at hg19); simp only [List.take_succ_cons, List.take_zero, List.cons_append, List.nil_append]
  (refine ax rfl fun K0 V => ?_; simp only [zE, op1, ev, lkp, ah, ag, ev, reduceCtorEq, E, D, J, U, O, S, Try.td3, Dfa.av, Mly.av]; refine V _ ?_; clear V K0; simp only [put, app, aa, af, zE, zS, D])
  (refine ax rfl fun K0 V => ?_; simp only [zE, op1, ev, lkp, ah, ag, aB, aC, aD, am, ay, aK, reduceCtorEq, E, D, J, U, O, S, Try.td3, Try.td4, Dfa.av, Mly.av]; (repeat refine And.intro (by first | omega | assumption | exact rfl) ?_); refine V _ ?_; clear V K0; simp only [put, app, aa, af, zE, zS, D])
  (refine ab rfl fun K0 V => ?_; simp only [zE, op1, ev, lkp, ah, ag, aZ, reduceCtorEq, E, D, J, U, O, S, Try.td4, Dfa.av, Mly.av]; refine V _ ?_; clear V K0; simp only [put, app, aa, af, zE, zS, D])
  refine aj ?_
  refine ⟨by simp only [Y, lkp, zE, reduceCtorEq, E, Z, D]; exact rfl, rfl, ?_, rfl⟩; (repeat refine aQ rfl ?_); exact bb (by exact rfl) hq19
 case b19 => exact b0 (by first | rfl | (simp [bD]; done) | decide)
 simp only [aW, aT]
 (refine ab rfl fun K0 V => ?_; simp only [zE, op1, ev, lkp, ah, ag, ev, reduceCtorEq, E, D, J, U, O, S, Try.td4, Dfa.av, Mly.av]; refine V _ ?_; clear V K0; simp only [put, app, aa, af, zE, zS, D])
 refine' aP (want := true) 2 rfl (m := 108) (by simp only [Y, lkp, zE, reduceCtorEq, E, Z, D]; exact rfl) (by kernel_rfl) rfl rfl rfl rfl rfl (fun hg20 => ?a20) ?b20 ?c20
 case a20 =>
  have hq20 := hg20; (try simp only [zB, reduceCtorEq] at hg20); simp only [List.take_succ_cons, List.take_zero, List.cons_append, List.nil_append]
  (refine ax rfl fun K0 V => ?_; simp only [zE, op1, ev, lkp, ah, ag, ev, reduceCtorEq, E, D, J, U, O, S, Try.td29, Dfa.av, Mly.av]; refine V _ ?_; clear V K0; simp only [put, app, aa, af, zE, zS, D])
  (refine ax rfl fun K0 V => ?_; simp only [zE, op1, ev, lkp, ah, ag, aB, aC, aD, am, ay, aK, reduceCtorEq, E, D, J, U, O, S, Try.td29, Try.td4, Dfa.av, Mly.av]; (repeat refine And.intro (by first | omega | assumption | exact rfl) ?_); refine V _ ?_; clear V K0; simp only [put, app, aa, af, zE, zS, D])
  (refine ab rfl fun K0 V => ?_; simp only [zE, op1, ev, lkp, ah, ag, aZ, reduceCtorEq, E, D, J, U, O, S, Try.td4, Dfa.av, Mly.av]; refine V _ ?_; clear V K0; simp only [put, app, aa, af, zE, zS, D])
  refine aj ?_
  refine ⟨by simp only [Y, lkp, zE, reduceCtorEq, E, Z, D]; exact rfl, rfl, ?_, rfl⟩; (repeat refine aQ rfl ?_); exact bb (by exact rfl) hq20
 case b20 => exact b0 (by first | rfl | (simp [bD]; done) | decide)
 simp only [aW, aT]
 (refine ab rfl fun K0 V => ?_; simp only [zE, op1, ev, lkp, ah, ag, ev, reduceCtorEq, E, D, J, U, O, S, Try.td4, Dfa.av, Mly.av]; refine V _ ?_; clear V K0; simp only [put, app, aa, af, zE, zS, D])
 refine' aP (want := true) 4 rfl (m := 112) (by simp only [Y, lkp, zE, reduceCtorEq, E, Z, D]; exact rfl) (by kernel_rfl) rfl rfl rfl rfl rfl (fun hg21 => ?a21) ?b21 ?c21
 case a21 =>
  have hq21 := hg21; (try simp only [zB, reduceCtorEq] at hg21); simp only [List.take_succ_cons, List.take_zero, List.cons_append, List.nil_append]
  (refine ax rfl fun K0 V => ?_; simp only [zE, op1, ev, lkp, ah, ag, aE, reduceCtorEq, E, D, J, U, O, S, Try.st25, Try.td2, Try.td25, Dfa.av, Mly.av]; (repeat refine And.intro (by first | omega | assumption | exact rfl) ?_); refine V _ ?_; clear V K0; simp only [put, app, aa, af, zE, zS, D])
  (refine ax rfl fun K0 V => ?_; simp only [zE, op1, ev, lkp, ah, ag, aA, Nat.mul_one, aw, az, acs, Ty.dflt, zG, au, reduceCtorEq, E, D, J, U, O, S, Try.el22, Try.td22, Dfa.av, Mly.av]; (repeat refine And.intro (by first | omega | assumption | exact rfl) ?_); refine V _ ?_; clear V K0; simp only [put, app, aa, af, zE, zS, D])
  (refine ax rfl fun K0 V => ?_; simp only [zE, op1, ev, lkp, ah, ag, aI, bu, bh, ba, bc, br, Nat.div_one, aO, be, Ty.size, aL, dite_true, reduceCtorEq, E, D, J, U, O, S, Try.el22, Try.td22, Try.td3, Dfa.av, Mly.av]; (repeat refine And.intro (by first | omega | assumption | exact rfl) ?_); (first | refine V _ ?_ | refine Or.inl (V _ ?_)); clear V K0; simp only [put, app, aa, af, zE, zS, D])
  (refine ax rfl fun K0 V => ?_; simp only [zE, op1, ev, lkp, ah, ag, aB, aC, aD, am, ay, aK, reduceCtorEq, E, D, J, U, O, S, Try.td3, Try.td4, Dfa.av, Mly.av]; (repeat refine And.intro (by first | omega | assumption | exact rfl) ?_); refine V _ ?_; clear V K0; simp only [put, app, aa, af, zE, zS, D])
  (refine ab rfl fun K0 V => ?_; simp only [zE, op1, ev, lkp, ah, ag, aZ, reduceCtorEq, E, D, J, U, O, S, Try.td4, Dfa.av, Mly.av]; refine V _ ?_; clear V K0; simp only [put, app, aa, af, zE, zS, D])
  refine aj ?_
  refine ⟨by simp only [Y, lkp, zE, reduceCtorEq, E, Z, D]; exact rfl, rfl, ?_, rfl⟩; (repeat refine aQ rfl ?_); exact bb (by exact rfl) hq21
 case b21 => exact b0 (by first | rfl | (simp [bD]; done) | decide)
 simp only [aW, aT]
 (refine ab rfl fun K0 V => ?_; simp only [zE, op1, ev, lkp, ah, ag, ev, reduceCtorEq, E, D, J, U, O, S, Try.td4, Dfa.av, Mly.av]; refine V _ ?_; clear V K0; simp only [put, app, aa, af, zE, zS, D])
 refine' aP (want := true) 2 rfl (m := 118) (by simp only [Y, lkp, zE, reduceCtorEq, E, Z, D]; exact rfl) (by kernel_rfl) rfl rfl rfl rfl rfl (fun hg22 => ?a22) ?b22 ?c22
 case a22 =>
  have hq22 := hg22; (try simp only [zB, reduceCtorEq] at hg22); simp only [List.take_succ_cons, List.take_zero, List.cons_append, List.nil_append]
  (refine ax rfl fun K0 V => ?_; simp only [zE, op1, ev, lkp, ah, ag, ev, reduceCtorEq, E, D, J, U, O, S, Try.td29, Dfa.av, Mly.av]; refine V _ ?_; clear V K0; simp only [put, app, aa, af, zE, zS, D])
  (refine ax rfl fun K0 V => ?_; simp only [zE, op1, ev, lkp, ah, ag, aB, aC, aD, am, ay, aK, reduceCtorEq, E, D, J, U, O, S, Try.td29, Try.td4, Dfa.av, Mly.av]; (repeat refine And.intro (by first | omega | assumption | exact rfl) ?_); refine V _ ?_; clear V K0; simp only [put, app, aa, af, zE, zS, D])
  (refine ab rfl fun K0 V => ?_; simp only [zE, op1, ev, lkp, ah, ag, aZ, reduceCtorEq, E, D, J, U, O, S, Try.td4, Dfa.av, Mly.av]; refine V _ ?_; clear V K0; simp only [put, app, aa, af, zE, zS, D])
  refine aj ?_
  refine ⟨by simp only [Y, lkp, zE, reduceCtorEq, E, Z, D]; exact rfl, rfl, ?_, rfl⟩; (repeat refine aQ rfl ?_); exact bb (by exact rfl) hq22
 case b22 => exact b0 (by first | rfl | (simp [bD]; done) | decide)
 simp only [aW, aT]
 (refine ab rfl fun K0 V => ?_; simp only [zE, op1, ev, lkp, ah, ag, ev, reduceCtorEq, E, D, J, U, O, S, Try.td4, Dfa.av, Mly.av]; refine V _ ?_; clear V K0; simp only [put, app, aa, af, zE, zS, D])
 refine' aP (want := true) 6 rfl (m := 122) (by simp only [Y, lkp, zE, reduceCtorEq, E, Z, D]; exact rfl) (by kernel_rfl) rfl rfl rfl rfl rfl (fun hg23 => ?a23) ?b23 ?c23
 case a23 =>
  have hq23 := hg23; (try simp only [zB, reduceCtorEq] at hg23); simp only [List.take_succ_cons, List.take_zero, List.cons_append, List.nil_append]
  (refine ax rfl fun K0 V => ?_; simp only [zE, op1, ev, lkp, ah, ag, aA, Nat.mul_one, aw, az, acs, Ty.dflt, zG, au, reduceCtorEq, E, D, J, U, O, S, Try.st25, Try.td25, Dfa.av, Mly.av]; (repeat refine And.intro (by first | omega | assumption | exact rfl) ?_); refine V _ ?_; clear V K0; simp only [put, app, aa, af, zE, zS, D])
  (refine ax rfl fun K0 V => ?_; simp only [zE, op1, ev, lkp, ah, ag, bp, bj, bY, rep, aL, aR, aq, Ty.size, reduceCtorEq, E, D, J, U, O, S, Try.el26, Try.td2, Try.td26, Dfa.av, Mly.av]; (repeat refine And.intro (by first | omega | assumption | exact rfl) ?_); (first | refine V _ ?_ | refine Or.inl (V _ ?_)); clear V K0; simp only [put, app, aa, af, zE, zS, D])
  (refine ax rfl fun K0 V => ?_; simp only [zE, op1, ev, lkp, ah, ag, bp, bj, bY, rep, aL, aR, aq, Ty.size, reduceCtorEq, E, D, J, U, O, S, Try.el22, Try.td1, Try.td22, Dfa.av, Mly.av]; (repeat refine And.intro (by first | omega | assumption | exact rfl) ?_); (first | refine V _ ?_ | refine Or.inl (V _ ?_)); clear V K0; simp only [put, app, aa, af, zE, zS, D])
  (refine ax rfl fun K0 V => ?_; simp only [zE, op1, ev, lkp, ah, ag, bp, bj, bY, rep, aL, aR, aq, Ty.size, reduceCtorEq, E, D, J, U, O, S, Try.el23, Try.td1, Try.td23, Dfa.av, Mly.av]; (repeat refine And.intro (by first | omega | assumption | exact rfl) ?_); (first | refine V _ ?_ | refine Or.inl (V _ ?_)); clear V K0; simp only [put, app, aa, af, zE, zS, D])
  (refine ax rfl fun K0 V => ?_; simp only [zE, op1, ev, lkp, ah, ag, bS, bj, aR, aq, reduceCtorEq, E, D, J, U, O, S, Try.st25, Try.td25, Dfa.av, Mly.av]; (repeat refine And.intro (by first | omega | assumption | exact rfl) ?_); (first | refine V _ ?_ | refine Or.inl (V _ ?_)); clear V K0; simp only [put, app, aa, af, zE, zS, D])
  refine ax rfl fun K0 V => ?_
  refine aU (h := aF (jZ (cW (cY 3 dEv (coD dEv))) ⟨2, 0, [[0, 0]], [true]⟩ (by decide +kernel))) rfl rfl (by first | exact rfl | (simp only [ev, Y, lkp, zE, reduceCtorEq, E, Z, D]; exact rfl)) (by simp only [zE, zG, op1, ev, lkp, ah, ag, aq, acs, aY, mv1, mvC, Ty.dflt, reduceCtorEq, E, D, J, U, O, S, Dfa.av, Mly.av]) ?_
  refine V _ ?_; clear V K0; simp only [put, app, aa, af, zE, zS, D]
  (refine ab rfl fun K0 V => ?_; simp only [zE, op1, ev, lkp, ah, ag, aZ, reduceCtorEq, E, D, J, U, O, S, Try.td4, Dfa.av, Mly.av]; refine V _ ?_; clear V K0; simp only [put, app, aa, af, zE, zS, D])
  refine aj ?_
  refine ⟨by simp only [Y, lkp, zE, reduceCtorEq, E, Z, D]; exact rfl, rfl, ?_, rfl⟩; (repeat refine aQ rfl ?_); exact bb (by exact rfl) hq23
 case b23 => exact b0 (by first | rfl | (simp [bD]; done) | decide)
 simp only [aW, aT]
 (refine ab rfl fun K0 V => ?_; simp only [zE, op1, ev, lkp, ah, ag, ev, reduceCtorEq, E, D, J, U, O, S, Try.td4, Dfa.av, Mly.av]; refine V _ ?_; clear V K0; simp only [put, app, aa, af, zE, zS, D])
 refine' aP (want := true) 2 rfl (m := 130) (by simp only [Y, lkp, zE, reduceCtorEq, E, Z, D]; exact rfl) (by kernel_rfl) rfl rfl rfl rfl rfl (fun hg24 => ?a24) ?b24 ?c24
 case a24 =>
  have hq24 := hg24; (try simp only [zB, reduceCtorEq] at hg24); simp only [List.take_succ_cons, List.take_zero, List.cons_append, List.nil_append]
  (refine ax rfl fun K0 V => ?_; simp only [zE, op1, ev, lkp, ah, ag, ev, reduceCtorEq, E, D, J, U, O, S, Try.td29, Dfa.av, Mly.av]; refine V _ ?_; clear V K0; simp only [put, app, aa, af, zE, zS, D])
  (refine ax rfl fun K0 V => ?_; simp only [zE, op1, ev, lkp, ah, ag, aB, aC, aD, am, ay, aK, reduceCtorEq, E, D, J, U, O, S, Try.td29, Try.td4, Dfa.av, Mly.av]; (repeat refine And.intro (by first | omega | assumption | exact rfl) ?_); refine V _ ?_; clear V K0; simp only [put, app, aa, af, zE, zS, D])
  (refine ab rfl fun K0 V => ?_; simp only [zE, op1, ev, lkp, ah, ag, aZ, reduceCtorEq, E, D, J, U, O, S, Try.td4, Dfa.av, Mly.av]; refine V _ ?_; clear V K0; simp only [put, app, aa, af, zE, zS, D])
  refine aj ?_
  refine ⟨by simp only [Y, lkp, zE, reduceCtorEq, E, Z, D]; exact rfl, rfl, ?_, rfl⟩; (repeat refine aQ rfl ?_); exact bb (by exact rfl) hq24
 case b24 => exact b0 (by first | rfl | (simp [bD]; done) | decide)
 simp only [aW, aT]
 (refine ab rfl fun K0 V => ?_; simp only [zE, op1, ev, lkp, ah, ag, ev, reduceCtorEq, E, D, J, U, O, S, Try.td4, Dfa.av, Mly.av]; refine V _ ?_; clear V K0; simp only [put, app, aa, af, zE, zS, D])
 refine' aP (want := true) 1 rfl (m := 134) (by simp only [Y, lkp, zE, reduceCtorEq, E, Z, D]; exact rfl) (by kernel_rfl) rfl rfl rfl rfl rfl (fun hg25 => ?a25) ?b25 ?c25
 case a25 =>
  have hq25 := hg25; (try simp only [zB, reduceCtorEq] at hg25); simp only [List.take_succ_cons, List.take_zero, List.cons_append, List.nil_append]
  (refine ax rfl fun K0 V => ?_; simp only [zE, op1, ev, lkp, ah, ag, ev, reduceCtorEq, E, D, J, U, O, S, Try.td4, Dfa.av, Mly.av]; refine V _ ?_; clear V K0; simp only [put, app, aa, af, zE, zS, D])
  (refine ab rfl fun K0 V => ?_; simp only [zE, op1, ev, lkp, ah, ag, aZ, reduceCtorEq, E, D, J, U, O, S, Try.td4, Dfa.av, Mly.av]; refine V _ ?_; clear V K0; simp only [put, app, aa, af, zE, zS, D])
  refine aj ?_
  refine ⟨by simp only [Y, lkp, zE, reduceCtorEq, E, Z, D]; exact rfl, rfl, ?_, rfl⟩; (repeat refine aQ rfl ?_); exact bb (by exact rfl) hq25
 case b25 => exact b0 (by first | rfl | (simp [bD]; done) | decide)
 simp only [aW, aT]
 (refine ab rfl fun K0 V => ?_; simp only [zE, op1, ev, lkp, ah, ag, ev, reduceCtorEq, E, D, J, U, O, S, Try.td4, Dfa.av, Mly.av]; refine V _ ?_; clear V K0; simp only [put, app, aa, af, zE, zS, D])
 refine' aP (want := true) 2 rfl (m := 137) (by simp only [Y, lkp, zE, reduceCtorEq, E, Z, D]; exact rfl) (by kernel_rfl) rfl rfl rfl rfl rfl (fun hg26 => ?a26) ?b26 ?c26
 case a26 =>
  have hq26 := hg26; (try simp only [zB, reduceCtorEq] at hg26); simp only [List.take_succ_cons, List.take_zero, List.cons_append, List.nil_append]
  (refine ax rfl fun K0 V => ?_; simp only [zE, op1, ev, lkp, ah, ag, ev, reduceCtorEq, E, D, J, U, O, S, Try.td29, Dfa.av, Mly.av]; refine V _ ?_; clear V K0; simp only [put, app, aa, af, zE, zS, D])
  (refine ax rfl fun K0 V => ?_; simp only [zE, op1, ev, lkp, ah, ag, aB, aC, aD, am, ay, aK, reduceCtorEq, E, D, J, U, O, S, Try.td29, Try.td4, Dfa.av, Mly.av]; (repeat refine And.intro (by first | omega | assumption | exact rfl) ?_); refine V _ ?_; clear V K0; simp only [put, app, aa, af, zE, zS, D])
  (refine ab rfl fun K0 V => ?_; simp only [zE, op1, ev, lkp, ah, ag, aZ, reduceCtorEq, E, D, J, U, O, S, Try.td4, Dfa.av, Mly.av]; refine V _ ?_; clear V K0; simp only [put, app, aa, af, zE, zS, D])
  refine aj ?_
  refine ⟨by simp only [Y, lkp, zE, reduceCtorEq, E, Z, D]; exact rfl, rfl, ?_, rfl⟩; (repeat refine aQ rfl ?_); exact bb (by exact rfl) hq26
 case b26 => exact b0 (by first | rfl | (simp [bD]; done) | decide)
 simp only [aW, aT]
 (refine ab rfl fun K0 V => ?_; simp only [zE, op1, ev, lkp, ah, ag, ev, reduceCtorEq, E, D, J, U, O, S, Try.td4, Dfa.av, Mly.av]; refine V _ ?_; clear V K0; simp only [put, app, aa, af, zE, zS, D])
 refine' aP (want := true) 2 rfl (m := 141) (by simp only [Y, lkp, zE, reduceCtorEq, E, Z, D]; exact rfl) (by kernel_rfl) rfl rfl rfl rfl rfl (fun hg27 => ?a27) ?b27 ?c27
 case a27 =>
  have hq27 := hg27; (try simp only [zB, reduceCtorEq] at hg27); simp only [List.take_succ_cons, List.take_zero, List.cons_append, List.nil_append]
  (refine ax rfl fun K0 V => ?_; simp only [zE, op1, ev, lkp, ah, ag, ev, reduceCtorEq, E, D, J, U, O, S, Try.td4, Dfa.av, Mly.av]; refine V _ ?_; clear V K0; simp only [put, app, aa, af, zE, zS, D])
  (refine ax rfl fun K0 V => ?_; simp only [zE, op1, ev, lkp, ah, ag, ew, reduceCtorEq, E, D, J, U, O, S, Try.td4, Dfa.av, Mly.av]; (repeat refine And.intro (by first | omega | assumption | exact rfl) ?_); refine V _ ?_; clear V K0; simp only [put, app, aa, af, zE, zS, D])
  (refine ab rfl fun K0 V => ?_; simp only [zE, op1, ev, lkp, ah, ag, aZ, reduceCtorEq, E, D, J, U, O, S, Try.td4, Dfa.av, Mly.av]; refine V _ ?_; clear V K0; simp only [put, app, aa, af, zE, zS, D])
  refine aj ?_
  refine ⟨by simp only [Y, lkp, zE, reduceCtorEq, E, Z, D]; exact rfl, rfl, ?_, rfl⟩; (repeat refine aQ rfl ?_); exact bb (by exact rfl) hq27
 case b27 => exact b0 (by first | rfl | (simp [bD]; done) | decide)
 simp only [aW, aT]
 (refine ab rfl fun K0 V => ?_; simp only [zE, op1, ev, lkp, ah, ag, ev, reduceCtorEq, E, D, J, U, O, S, Try.td4, Dfa.av, Mly.av]; refine V _ ?_; clear V K0; simp only [put, app, aa, af, zE, zS, D])
 refine' aP (want := true) 2 rfl (m := 145) (by simp only [Y, lkp, zE, reduceCtorEq, E, Z, D]; exact rfl) (by kernel_rfl) rfl rfl rfl rfl rfl (fun hg28 => ?a28) ?b28 ?c28
 case a28 =>
  have hq28 := hg28; (try simp only [zB, reduceCtorEq] at hg28); simp only [List.take_succ_cons, List.take_zero, List.cons_append, List.nil_append]
  (refine ax rfl fun K0 V => ?_; simp only [zE, op1, ev, lkp, ah, ag, ev, reduceCtorEq, E, D, J, U, O, S, Try.td29, Dfa.av, Mly.av]; refine V _ ?_; clear V K0; simp only [put, app, aa, af, zE, zS, D])
  (refine ax rfl fun K0 V => ?_; simp only [zE, op1, ev, lkp, ah, ag, aB, aC, aD, am, ay, aK, reduceCtorEq, E, D, J, U, O, S, Try.td29, Try.td4, Dfa.av, Mly.av]; (repeat refine And.intro (by first | omega | assumption | exact rfl) ?_); refine V _ ?_; clear V K0; simp only [put, app, aa, af, zE, zS, D])
  (refine ab rfl fun K0 V => ?_; simp only [zE, op1, ev, lkp, ah, ag, aZ, reduceCtorEq, E, D, J, U, O, S, Try.td4, Dfa.av, Mly.av]; refine V _ ?_; clear V K0; simp only [put, app, aa, af, zE, zS, D])
  refine aj ?_
  refine ⟨by simp only [Y, lkp, zE, reduceCtorEq, E, Z, D]; exact rfl, rfl, ?_, rfl⟩; (repeat refine aQ rfl ?_); exact bb (by exact rfl) hq28
 case b28 => exact b0 (by first | rfl | (simp [bD]; done) | decide)
 simp only [aW, aT]
 (refine ab rfl fun K0 V => ?_; simp only [zE, op1, ev, lkp, ah, ag, ev, reduceCtorEq, E, D, J, U, O, S, Try.td4, Dfa.av, Mly.av]; refine V _ ?_; clear V K0; simp only [put, app, aa, af, zE, zS, D])
 refine' aP (want := true) 6 rfl (m := 149) (by simp only [Y, lkp, zE, reduceCtorEq, E, Z, D]; exact rfl) (by kernel_rfl) rfl rfl rfl rfl rfl (fun hg29 => ?a29) ?b29 ?c29
 case a29 =>
  have hq29 := hg29; (try simp only [zB, reduceCtorEq] at hg29); simp only [List.take_succ_cons, List.take_zero, List.cons_append, List.nil_append]
  (refine ax rfl fun K0 V => ?_; simp only [zE, op1, ev, lkp, ah, ag, aE, reduceCtorEq, E, D, J, U, O, S, Try.st58, Try.td3, Try.td58, Dfa.av, Mly.av]; (repeat refine And.intro (by first | omega | assumption | exact rfl) ?_); refine V _ ?_; clear V K0; simp only [put, app, aa, af, zE, zS, D])
  (refine ax rfl fun K0 V => ?_; simp only [zE, op1, ev, lkp, ah, ag, aA, Nat.mul_one, aw, az, acs, Ty.dflt, zG, au, reduceCtorEq, E, D, J, U, O, S, Try.el22, Try.td22, Dfa.av, Mly.av]; (repeat refine And.intro (by first | omega | assumption | exact rfl) ?_); refine V _ ?_; clear V K0; simp only [put, app, aa, af, zE, zS, D])
  (refine ax rfl fun K0 V => ?_; simp only [zE, op1, ev, lkp, ah, ag, bp, bj, bY, rep, aL, aR, aq, Ty.size, reduceCtorEq, E, D, J, U, O, S, Try.el26, Try.td2, Try.td26, Dfa.av, Mly.av]; (repeat refine And.intro (by first | omega | assumption | exact rfl) ?_); (first | refine V _ ?_ | refine Or.inl (V _ ?_)); clear V K0; simp only [put, app, aa, af, zE, zS, D])
  (refine ax rfl fun K0 V => ?_; simp only [zE, op1, ev, lkp, ah, ag, bp, bj, bY, rep, aL, aR, aq, Ty.size, reduceCtorEq, E, D, J, U, O, S, Try.el26, Try.td2, Try.td26, Dfa.av, Mly.av]; (repeat refine And.intro (by first | omega | assumption | exact rfl) ?_); (first | refine V _ ?_ | refine Or.inl (V _ ?_)); clear V K0; simp only [put, app, aa, af, zE, zS, D])
  (refine ax rfl fun K0 V => ?_; simp only [zE, op1, ev, lkp, ah, ag, bp, bj, bY, rep, aL, aR, aq, Ty.size, reduceCtorEq, E, D, J, U, O, S, Try.el22, Try.td2, Try.td22, Dfa.av, Mly.av]; (repeat refine And.intro (by first | omega | assumption | exact rfl) ?_); (first | refine V _ ?_ | refine Or.inl (V _ ?_)); clear V K0; simp only [put, app, aa, af, zE, zS, D])
  refine ax rfl fun K0 V => ?_
  refine aU (h := aF (im (toM dEv).ot [[1, 0], [0, 1]])) rfl rfl (by first | exact rfl | (simp only [ev, Y, lkp, zE, reduceCtorEq, E, Z, D]; exact rfl)) (by simp only [zE, zG, op1, ev, lkp, ah, ag, aq, acs, aY, mv1, mvC, Ty.dflt, reduceCtorEq, E, D, J, U, O, S, Dfa.av, Mly.av]) ?_
  refine V _ ?_; clear V K0; simp only [put, app, aa, af, zE, zS, D]
  (refine ab rfl fun K0 V => ?_; simp only [zE, op1, ev, lkp, ah, ag, aZ, reduceCtorEq, E, D, J, U, O, S, Try.td4, Dfa.av, Mly.av]; refine V _ ?_; clear V K0; simp only [put, app, aa, af, zE, zS, D])
  refine aj ?_
  refine ⟨by simp only [Y, lkp, zE, reduceCtorEq, E, Z, D]; exact rfl, rfl, ?_, rfl⟩; (repeat refine aQ rfl ?_); exact bb (by exact rfl) hq29
 case b29 => exact b0 (by first | rfl | (simp [bD]; done) | decide)
 simp only [aW, aT]
 (refine ab rfl fun K0 V => ?_; simp only [zE, op1, ev, lkp, ah, ag, ev, reduceCtorEq, E, D, J, U, O, S, Try.td4, Dfa.av, Mly.av]; refine V _ ?_; clear V K0; simp only [put, app, aa, af, zE, zS, D])
 refine' aP (want := true) 2 rfl (m := 157) (by simp only [Y, lkp, zE, reduceCtorEq, E, Z, D]; exact rfl) (by kernel_rfl) rfl rfl rfl rfl rfl (fun hg30 => ?a30) ?b30 ?c30
 case a30 =>
  have hq30 := hg30; (try simp only [zB, reduceCtorEq] at hg30); simp only [List.take_succ_cons, List.take_zero, List.cons_append, List.nil_append]
  (refine ax rfl fun K0 V => ?_; simp only [zE, op1, ev, lkp, ah, ag, ev, reduceCtorEq, E, D, J, U, O, S, Try.td29, Dfa.av, Mly.av]; refine V _ ?_; clear V K0; simp only [put, app, aa, af, zE, zS, D])
  (refine ax rfl fun K0 V => ?_; simp only [zE, op1, ev, lkp, ah, ag, aB, aC, aD, am, ay, aK, reduceCtorEq, E, D, J, U, O, S, Try.td29, Try.td4, Dfa.av, Mly.av]; (repeat refine And.intro (by first | omega | assumption | exact rfl) ?_); refine V _ ?_; clear V K0; simp only [put, app, aa, af, zE, zS, D])
  (refine ab rfl fun K0 V => ?_; simp only [zE, op1, ev, lkp, ah, ag, aZ, reduceCtorEq, E, D, J, U, O, S, Try.td4, Dfa.av, Mly.av]; refine V _ ?_; clear V K0; simp only [put, app, aa, af, zE, zS, D])
  refine aj ?_
  refine ⟨by simp only [Y, lkp, zE, reduceCtorEq, E, Z, D]; exact rfl, rfl, ?_, rfl⟩; (repeat refine aQ rfl ?_); exact bb (by exact rfl) hq30
 case b30 => exact b0 (by first | rfl | (simp [bD]; done) | decide)
 simp only [aW, aT]
 (refine ab rfl fun K0 V => ?_; simp only [zE, op1, ev, lkp, ah, ag, ev, reduceCtorEq, E, D, J, U, O, S, Try.td4, Dfa.av, Mly.av]; refine V _ ?_; clear V K0; simp only [put, app, aa, af, zE, zS, D])
 refine' aP (want := true) 3 rfl (m := 161) (by simp only [Y, lkp, zE, reduceCtorEq, E, Z, D]; exact rfl) (by kernel_rfl) rfl rfl rfl rfl rfl (fun hg31 => ?a31) ?b31 ?c31
 case a31 =>
  have hq31 := hg31; (try simp only [zB, reduceCtorEq] at hg31); simp only [List.take_succ_cons, List.take_zero, List.cons_append, List.nil_append]
  (refine ax rfl fun K0 V => ?_; simp only [zE, op1, ev, lkp, ah, ag, aA, Nat.mul_one, aw, az, acs, Ty.dflt, zG, au, reduceCtorEq, E, D, J, U, O, S, Try.st25, Try.td25, Dfa.av, Mly.av]; (repeat refine And.intro (by first | omega | assumption | exact rfl) ?_); refine V _ ?_; clear V K0; simp only [put, app, aa, af, zE, zS, D])
  (refine ax rfl fun K0 V => ?_; simp only [zE, op1, ev, lkp, ah, ag, aA, Nat.mul_one, aw, az, acs, Ty.dflt, zG, au, reduceCtorEq, E, D, J, U, O, S, Try.st25, Try.td25, Dfa.av, Mly.av]; (repeat refine And.intro (by first | omega | assumption | exact rfl) ?_); refine V _ ?_; clear V K0; simp only [put, app, aa, af, zE, zS, D])
  refine ax rfl fun K0 V => ?_
  refine aU (h := aF (jZ (fmD (toM dEv) true) dEv (by decide +kernel))) rfl rfl (by first | exact rfl | (simp only [ev, Y, lkp, zE, reduceCtorEq, E, Z, D]; exact rfl)) (by simp only [zE, zG, op1, ev, lkp, ah, ag, aq, acs, aY, mv1, mvC, Ty.dflt, reduceCtorEq, E, D, J, U, O, S, Dfa.av, Mly.av]) ?_
  refine V _ ?_; clear V K0; simp only [put, app, aa, af, zE, zS, D]
  (refine ab rfl fun K0 V => ?_; simp only [zE, op1, ev, lkp, ah, ag, aZ, reduceCtorEq, E, D, J, U, O, S, Try.td4, Dfa.av, Mly.av]; refine V _ ?_; clear V K0; simp only [put, app, aa, af, zE, zS, D])
  refine aj ?_
  refine ⟨by simp only [Y, lkp, zE, reduceCtorEq, E, Z, D]; exact rfl, rfl, ?_, rfl⟩; (repeat refine aQ rfl ?_); exact bb (by exact rfl) hq31
 case b31 => exact b0 (by first | rfl | (simp [bD]; done) | decide)
 simp only [aW, aT]
 (refine ab rfl fun K0 V => ?_; simp only [zE, op1, ev, lkp, ah, ag, ev, reduceCtorEq, E, D, J, U, O, S, Try.td4, Dfa.av, Mly.av]; refine V _ ?_; clear V K0; simp only [put, app, aa, af, zE, zS, D])
 refine' aP (want := true) 2 rfl (m := 166) (by simp only [Y, lkp, zE, reduceCtorEq, E, Z, D]; exact rfl) (by kernel_rfl) rfl rfl rfl rfl rfl (fun hg32 => ?a32) ?b32 ?c32
 case a32 =>
  have hq32 := hg32; (try simp only [zB, reduceCtorEq] at hg32); simp only [List.take_succ_cons, List.take_zero, List.cons_append, List.nil_append]
  (refine ax rfl fun K0 V => ?_; simp only [zE, op1, ev, lkp, ah, ag, ev, reduceCtorEq, E, D, J, U, O, S, Try.td29, Dfa.av, Mly.av]; refine V _ ?_; clear V K0; simp only [put, app, aa, af, zE, zS, D])
  (refine ax rfl fun K0 V => ?_; simp only [zE, op1, ev, lkp, ah, ag, aB, aC, aD, am, ay, aK, reduceCtorEq, E, D, J, U, O, S, Try.td29, Try.td4, Dfa.av, Mly.av]; (repeat refine And.intro (by first | omega | assumption | exact rfl) ?_); refine V _ ?_; clear V K0; simp only [put, app, aa, af, zE, zS, D])
  (refine ab rfl fun K0 V => ?_; simp only [zE, op1, ev, lkp, ah, ag, aZ, reduceCtorEq, E, D, J, U, O, S, Try.td4, Dfa.av, Mly.av]; refine V _ ?_; clear V K0; simp only [put, app, aa, af, zE, zS, D])
  refine aj ?_
  refine ⟨by simp only [Y, lkp, zE, reduceCtorEq, E, Z, D]; exact rfl, rfl, ?_, rfl⟩; (repeat refine aQ rfl ?_); exact bb (by exact rfl) hq32
 case b32 => exact b0 (by first | rfl | (simp [bD]; done) | decide)
 simp only [aW, aT]
 (refine ab rfl fun K0 V => ?_; simp only [zE, op1, ev, lkp, ah, ag, ev, reduceCtorEq, E, D, J, U, O, S, Try.td4, Dfa.av, Mly.av]; refine V _ ?_; clear V K0; simp only [put, app, aa, af, zE, zS, D])
 refine aj ?_
 refine hK13 _ ?_; clear hK13; refine ae [0, 1, 2, 3, 4, 5, 6, 7, 8, 9, 10, 11, 12, 13, 14, 16, 17, 19, 20, 21, 22, 23, 24] ?_; simp only [Y, lkp, zE, reduceCtorEq, E, Z, D]
 refine aJ ?_
 refine ⟨by first | exact .inl rfl | exact .inr rfl, _, rfl, ?_⟩; simp only [fzV, fz1, fzC, List.map_cons, List.map_nil, Y, lkp, zE, reduceCtorEq, E, Z, D, Dfa.av, Mly.av]
 refine VLE.of_eq ?_
 refine congrArg (fun b => AV.one (AC.bool b)) ?_
 decide +kernel
end Go.Proofs.Ytdkgcbhbpdbmnaa
namespace Go.Proofs.Ytdkgcbhbpdbmnaa
open Go Go.AV
open Nat renaming reduceEqDiff → E, reduceAdd → D, reduceLeDiff → J, reduceLT → U, reduceMul → O, reduceSub → S
open List renaming set_cons_zero → ar, set_cons_succ → ao
set_option maxRecDepth 100000 in
theorem sn (a b : List Int) : bE Try.prog 75 [.one (.list (.int .i64) a), .one (.list (.int .i64) b)] (.one (.int .i64 (i4 a b))) := by
 refine aV Try.func75 rfl (by kernel_rfl) (Nat.le_of_ble_eq_true rfl) rfl fun C hP hN hB => ?_
 replace hN : C.N = 40 := hN
 simp only [Z, D]
 have hcl := oZ a b
 refine ad fun K1 hK1 => ?_
 refine ai hP hN rfl ?_
 (refine ab rfl fun K0 V => ?_; simp only [zE, op1, ev, lkp, ah, ag, ev, reduceCtorEq, E, D, J, U, O, S, Try.td3]; refine V _ ?_; clear V K0; simp only [put, app, aa, af, zE, zS, D])
 refine aj ?_
 refine hK1 _ ?_; clear hK1; refine ae [0, 1, 4] ?_; simp only [Y, lkp, zE, reduceCtorEq, E, Z, D]
 refine ad fun K2 hK2 => ?_
 refine ai hP hN rfl ?_
 iterate 2 (refine ab rfl fun K0 V => ?_; simp only [zE, op1, ev, lkp, ah, ag, ev, reduceCtorEq, E, D, J, U, O, S, Try.el26, Try.td26]; refine V _ ?_; clear V K0; simp only [put, app, aa, af, zE, zS, D])
 refine ab rfl fun K0 V => ?_
 refine aU (h := aF (qv a b)) rfl rfl (by first | exact rfl | (simp only [ev, Y, lkp, zE, reduceCtorEq, E, Z, D]; exact rfl)) (by simp only [zE, zG, op1, ev, lkp, ah, ag, aq, acs, aY, mv1, mvC, Ty.dflt, reduceCtorEq, E, D, J, U, O, S]) ?_
 refine V _ ?_; clear V K0; simp only [put, app, aa, af, zE, zS, D]
 (refine ab rfl fun K0 V => ?_; simp only [zE, op1, ev, lkp, ah, ag, ev, reduceCtorEq, E, D, J, U, O, S, Try.td3]; refine V _ ?_; clear V K0; simp only [put, app, aa, af, zE, zS, D])
 refine aj ?_
 refine hK2 _ ?_; clear hK2; refine ae [0, 1, 4, 5] ?_; simp only [Y, lkp, zE, reduceCtorEq, E, Z, D]
 refine ad fun K3 hK3 => ?_
 refine aS ?_
 refine ad fun K4 hK4 => ?_
 refine ai hP hN rfl ?_
 iterate 4 (refine ab rfl fun K0 V => ?_; simp only [zE, op1, ev, lkp, ah, ag, aI, bu, bh, ba, bc, br, Nat.div_one, aO, be, Ty.size, aL, dite_true, aB, aC, aD, am, ay, aK, reduceCtorEq, E, D, J, U, O, S, Try.el26, Try.td26, Try.td3, Try.td4]; (repeat refine And.intro (by first | omega | assumption | exact rfl) ?_); (first | refine V _ ?_ | refine Or.inl (V _ ?_)); clear V K0; simp only [put, app, aa, af, zE, zS, D])
 (refine ab rfl fun K0 V => ?_; simp only [zE, op1, ev, lkp, ah, ag, ev, reduceCtorEq, E, D, J, U, O, S, Try.td4]; refine V _ ?_; clear V K0; simp only [put, app, aa, af, zE, zS, D])
 refine' aP (want := true) 4 rfl (m := 14) (by simp only [Y, lkp, zE, reduceCtorEq, E, Z, D]; exact rfl) (by kernel_rfl) rfl rfl rfl rfl rfl (fun hg5 => ?a5) ?b5 ?c5
 case a5 =>
  have hq5 := hg5; (try simp only [zB, reduceCtorEq] at hg5); simp only [List.take_succ_cons, List.take_zero, List.cons_append, List.nil_append]
  (refine ax rfl fun K0 V => ?_; simp only [zE, op1, ev, lkp, ah, ag, ev, reduceCtorEq, E, D, J, U, O, S, Try.td3]; refine V _ ?_; clear V K0; simp only [put, app, aa, af, zE, zS, D])
  (refine ax rfl fun K0 V => ?_; simp only [zE, op1, ev, lkp, ah, ag, ev, reduceCtorEq, E, D, J, U, O, S, Try.el26, Try.td26]; refine V _ ?_; clear V K0; simp only [put, app, aa, af, zE, zS, D])
  (refine ax rfl fun K0 V => ?_; simp only [zE, op1, ev, lkp, ah, ag, aI, bu, bh, ba, bc, br, Nat.div_one, aO, be, Ty.size, aL, dite_true, reduceCtorEq, E, D, J, U, O, S, Try.el26, Try.td26, Try.td3]; (repeat refine And.intro (by first | omega | assumption | exact rfl) ?_); (first | refine V _ ?_ | refine Or.inl (V _ ?_)); clear V K0; simp only [put, app, aa, af, zE, zS, D])
  (refine ax rfl fun K0 V => ?_; simp only [zE, op1, ev, lkp, ah, ag, aB, aC, aD, am, ay, aK, reduceCtorEq, E, D, J, U, O, S, Try.td3, Try.td4]; (repeat refine And.intro (by first | omega | assumption | exact rfl) ?_); refine V _ ?_; clear V K0; simp only [put, app, aa, af, zE, zS, D])
  (refine ab rfl fun K0 V => ?_; simp only [zE, op1, ev, lkp, ah, ag, aZ, reduceCtorEq, E, D, J, U, O, S, Try.td4]; refine V _ ?_; clear V K0; simp only [put, app, aa, af, zE, zS, D])
  refine aj ?_
  refine ⟨by simp only [Y, lkp, zE, reduceCtorEq, E, Z, D]; exact rfl, rfl, ?_, rfl⟩; (repeat refine aQ rfl ?_); exact bb (by exact rfl) hq5
 case b5 => exact b0 (by first | rfl | (simp [bD]; done) | decide)
 simp only [aW, aT]
 (refine ab rfl fun K0 V => ?_; simp only [zE, op1, ev, lkp, ah, ag, ev, reduceCtorEq, E, D, J, U, O, S, Try.td4]; refine V _ ?_; clear V K0; simp only [put, app, aa, af, zE, zS, D])
 refine aj ?_
 refine hK4 _ ?_; clear hK4; refine ae [0, 1, 4, 5, 9] ?_; simp only [Y, lkp, zE, reduceCtorEq, E, Z, D]
 refine aG (by simp only [ev, Y, lkp, zE, reduceCtorEq, E, Z, D]; exact rfl) (fun hc6 => ?_) (fun hc6 => ?_)
 ·(try simp only [zB, reduceCtorEq] at hc6)
  refine ad fun K7 hK7 => ?_
  refine ai hP hN rfl ?_
  (refine ab rfl fun K0 V => ?_; simp only [zE, op1, ev, lkp, ah, ag, ev, reduceCtorEq, E, D, J, U, O, S, Try.td3]; refine V _ ?_; clear V K0; simp only [put, app, aa, af, zE, zS, D])
  refine aj ?_
  refine hK7 _ ?_; clear hK7; refine ae [0, 1, 4, 5, 9] ?_; simp only [Y, lkp, zE, reduceCtorEq, E, Z, D]
  refine aJ ?_
  refine ⟨by first | exact .inl rfl | exact .inr rfl, _, rfl, ?_⟩; simp only [fzV, fz1, fzC, List.map_cons, List.map_nil, Y, lkp, zE, reduceCtorEq, E, Z, D]
  refine VLE.of_eq ?_
  refine congrArg (fun n => AV.one (AC.int IntKind.i64 n)) ?_
  unfold i4
  symm
  first
  | (rw [if_pos (by omega)]; done)
  | (rw [if_neg (by omega), if_pos (by omega)]; done)
  | (rw [if_neg (by omega), if_neg (by omega)]; done)
 ·(try simp only [zB, reduceCtorEq] at hc6)
  refine ad fun K8 hK8 => ?_
  refine ad fun K9 hK9 => ?_
  refine ai hP hN rfl ?_
  iterate 5 (refine ab rfl fun K0 V => ?_; simp only [zE, op1, ev, lkp, ah, ag, aI, bu, bh, ba, bc, br, Nat.div_one, aO, be, Ty.size, aL, dite_true, aB, aC, aD, am, ay, aK, reduceCtorEq, E, D, J, U, O, S, Try.el26, Try.td26, Try.td3, Try.td4]; (repeat refine And.intro (by first | omega | assumption | exact rfl) ?_); (first | refine V _ ?_ | refine Or.inl (V _ ?_)); clear V K0; simp only [put, app, aa, af, zE, zS, D])
  refine aj ?_
  refine hK9 _ ?_; clear hK9; refine ae [0, 1, 4, 5, 9, 20] ?_; simp only [Y, lkp, zE, reduceCtorEq, E, Z, D]
  refine aG (by simp only [ev, Y, lkp, zE, reduceCtorEq, E, Z, D]; exact rfl) (fun hc10 => ?_) (fun hc10 => ?_)
  ·(try simp only [zB, reduceCtorEq] at hc10)
   refine aH ?_
   refine hK8 _ ?_; clear hK8; refine ae [0, 1, 4, 5, 9, 20] ?_; simp only [Y, lkp, zE, reduceCtorEq, E, Z, D]
   refine aG (by simp only [ev, Y, lkp, zE, reduceCtorEq, E, Z, D]; exact rfl) (fun hc11 => ?_) (fun hc11 => ?_)
   ·(try simp only [zB, reduceCtorEq] at hc11)
    refine ad fun K12 hK12 => ?_
    refine ai hP hN rfl ?_
    (refine ab rfl fun K0 V => ?_; simp only [zE, op1, ev, lkp, ah, ag, ev, reduceCtorEq, E, D, J, U, O, S, Try.td3]; refine V _ ?_; clear V K0; simp only [put, app, aa, af, zE, zS, D])
    refine aj ?_
    refine hK12 _ ?_; clear hK12; refine ae [0, 1, 4, 5, 9, 20] ?_; simp only [Y, lkp, zE, reduceCtorEq, E, Z, D]
    refine aJ ?_
    refine ⟨by first | exact .inl rfl | exact .inr rfl, _, rfl, ?_⟩; simp only [fzV, fz1, fzC, List.map_cons, List.map_nil, Y, lkp, zE, reduceCtorEq, E, Z, D]
    refine VLE.of_eq ?_
    refine congrArg (fun n => AV.one (AC.int IntKind.i64 n)) ?_
    unfold i4
    symm
    first
    | (rw [if_pos (by omega)]; done)
    | (rw [if_neg (by omega), if_pos (by omega)]; done)
    | (rw [if_neg (by omega), if_neg (by omega)]; done)
   ·(try simp only [zB, reduceCtorEq] at hc11)
    refine aH ?_
    refine hK3 _ ?_; clear hK3; refine ae [0, 1, 4, 5, 9, 20] ?_; simp only [Y, lkp, zE, reduceCtorEq, E, Z, D]
    refine ad fun K13 hK13 => ?_
    refine ai hP hN rfl ?_
    (refine ab rfl fun K0 V => ?_; simp only [zE, op1, ev, lkp, ah, ag, ev, reduceCtorEq, E, D, J, U, O, S, Try.td3]; refine V _ ?_; clear V K0; simp only [put, app, aa, af, zE, zS, D])
    refine aj ?_
    refine hK13 _ ?_; clear hK13; refine ae [0, 1, 4, 5, 9, 20] ?_; simp only [Y, lkp, zE, reduceCtorEq, E, Z, D]
    refine aJ ?_
    refine ⟨by first | exact .inl rfl | exact .inr rfl, _, rfl, ?_⟩; simp only [fzV, fz1, fzC, List.map_cons, List.map_nil, Y, lkp, zE, reduceCtorEq, E, Z, D]
    refine VLE.of_eq ?_
    refine congrArg (fun n => AV.one (AC.int IntKind.i64 n)) ?_
    unfold i4
    symm
    first
    | (rw [if_pos (by omega)]; done)
    | (rw [if_neg (by omega), if_pos (by omega)]; done)
    | (rw [if_neg (by omega), if_neg (by omega)]; done)
  ·(try simp only [zB, reduceCtorEq] at hc10)
   refine ck hP hN Try.mixed rfl ?_
   iterate 4 (refine ab rfl fun K0 V => ?_; simp only [zE, op1, ev, lkp, ah, ag, aI, bu, bh, ba, bc, br, Nat.div_one, aO, be, Ty.size, aL, dite_true, aB, aC, aD, am, ay, aK, reduceCtorEq, E, D, J, U, O, S, Try.el26, Try.td26, Try.td3, Try.td4]; (repeat refine And.intro (by first | omega | assumption | exact rfl) ?_); (first | refine V _ ?_ | refine Or.inl (V _ ?_)); clear V K0; simp only [put, app, aa, af, zE, zS, D])
   (refine ab rfl fun K0 V => ?_; simp only [zE, op1, ev, lkp, ah, ag, ev, reduceCtorEq, E, D, J, U, O, S, Try.td4]; refine V _ ?_; clear V K0; simp only [put, app, aa, af, zE, zS, D])
   refine' aP (want := true) 9 rfl (m := 29) (by simp only [Y, lkp, zE, reduceCtorEq, E, Z, D]; exact rfl) (by kernel_rfl) rfl rfl rfl rfl rfl (fun hg14 => ?a14) ?b14 ?c14
   case a14 =>
    have hq14 := hg14; (try simp only [zB, reduceCtorEq] at hg14); simp only [List.take_succ_cons, List.take_zero, List.cons_append, List.nil_append]
    (refine ax rfl fun K0 V => ?_; simp only [zE, op1, ev, lkp, ah, ag, ev, reduceCtorEq, E, D, J, U, O, S, Try.el26, Try.td26]; refine V _ ?_; clear V K0; simp only [put, app, aa, af, zE, zS, D])
    (refine ax rfl fun K0 V => ?_; simp only [zE, op1, ev, lkp, ah, ag, ev, reduceCtorEq, E, D, J, U, O, S, Try.td3]; refine V _ ?_; clear V K0; simp only [put, app, aa, af, zE, zS, D])
    (refine ax rfl fun K0 V => ?_; simp only [zE, op1, ev, lkp, ah, ag, aM, zG, Ty.dflt, Ty.size, Nat.mul_one, ne_eq, not_false_eq_true, Int.natCast_one, Int.mul_one, reduceCtorEq, E, D, J, U, O, S, Try.el26, Try.td26]; (repeat refine And.intro (by first | omega | assumption | exact rfl) ?_); refine V _ ?_; clear V K0; simp only [put, app, aa, af, zE, zS, D])
    (refine ax rfl fun K0 V => ?_; simp only [zE, op1, ev, lkp, ah, ag, aA, Nat.mul_one, aw, az, acs, Ty.dflt, zG, au, reduceCtorEq, E, D, J, U, O, S, Try.td3]; (repeat refine And.intro (by first | omega | assumption | exact rfl) ?_); refine V _ ?_; clear V K0; simp only [put, app, aa, af, zE, zS, D])
    (refine ax rfl fun K0 V => ?_; simp only [zE, op1, ev, lkp, ah, ag, ev, reduceCtorEq, E, D, J, U, O, S, Try.el26, Try.td26]; refine V _ ?_; clear V K0; simp only [put, app, aa, af, zE, zS, D])
    (refine ax rfl fun K0 V => ?_; simp only [zE, op1, ev, lkp, ah, ag, ev, reduceCtorEq, E, D, J, U, O, S, Try.td3]; refine V _ ?_; clear V K0; simp only [put, app, aa, af, zE, zS, D])
    (refine ax rfl fun K0 V => ?_; simp only [zE, op1, ev, lkp, ah, ag, aM, zG, Ty.dflt, Ty.size, Nat.mul_one, ne_eq, not_false_eq_true, Int.natCast_one, Int.mul_one, reduceCtorEq, E, D, J, U, O, S, Try.el26, Try.td26]; (repeat refine And.intro (by first | omega | assumption | exact rfl) ?_); refine V _ ?_; clear V K0; simp only [put, app, aa, af, zE, zS, D])
    (refine ax rfl fun K0 V => ?_; simp only [zE, op1, ev, lkp, ah, ag, aA, Nat.mul_one, aw, az, acs, Ty.dflt, zG, au, reduceCtorEq, E, D, J, U, O, S, Try.td3]; (repeat refine And.intro (by first | omega | assumption | exact rfl) ?_); refine V _ ?_; clear V K0; simp only [put, app, aa, af, zE, zS, D])
    (refine ax rfl fun K0 V => ?_; simp only [zE, op1, ev, lkp, ah, ag, aB, aC, aD, am, ay, aK, reduceCtorEq, E, D, J, U, O, S, Try.td3, Try.td4]; (repeat refine And.intro (by first | omega | assumption | exact rfl) ?_); refine V _ ?_; clear V K0; simp only [put, app, aa, af, zE, zS, D])
    (refine ab rfl fun K0 V => ?_; simp only [zE, op1, ev, lkp, ah, ag, aZ, reduceCtorEq, E, D, J, U, O, S, Try.td4]; refine V _ ?_; clear V K0; simp only [put, app, aa, af, zE, zS, D])
    refine aj ?_
    refine ⟨by simp only [Y, lkp, zE, reduceCtorEq, E, Z, D]; exact rfl, rfl, ?_, rfl⟩; (repeat refine aQ rfl ?_); exact bb (by exact rfl) hq14
   case b14 => exact b0 (by first | rfl | (simp [bD]; done) | decide)
   simp only [aW, aT]
   (refine ab rfl fun K0 V => ?_; simp only [zE, op1, ev, lkp, ah, ag, ev, reduceCtorEq, E, D, J, U, O, S, Try.td4]; refine V _ ?_; clear V K0; simp only [put, app, aa, af, zE, zS, D])
   refine aj ?_
   refine ⟨by kernel_rfl, ?_⟩
   refine hK8 _ ?_; clear hK8; refine ae [0, 1, 4, 5, 9, 20] ?_; simp only [Y, lkp, zE, reduceCtorEq, E, Z, D]
   refine aG (by simp only [ev, Y, lkp, zE, reduceCtorEq, E, Z, D]; exact rfl) (fun hc15 => ?_) (fun hc15 => ?_)
   ·(try simp only [zB, reduceCtorEq] at hc15)
    refine ad fun K16 hK16 => ?_
    refine ai hP hN rfl ?_
    (refine ab rfl fun K0 V => ?_; simp only [zE, op1, ev, lkp, ah, ag, ev, reduceCtorEq, E, D, J, U, O, S, Try.td3]; refine V _ ?_; clear V K0; simp only [put, app, aa, af, zE, zS, D])
    refine aj ?_
    refine hK16 _ ?_; clear hK16; refine ae [0, 1, 4, 5, 9, 20] ?_; simp only [Y, lkp, zE, reduceCtorEq, E, Z, D]
    refine aJ ?_
    refine ⟨by first | exact .inl rfl | exact .inr rfl, _, rfl, ?_⟩; simp only [fzV, fz1, fzC, List.map_cons, List.map_nil, Y, lkp, zE, reduceCtorEq, E, Z, D]
    refine VLE.of_eq ?_
    refine congrArg (fun n => AV.one (AC.int IntKind.i64 n)) ?_
    unfold i4
    symm
    first
    | (rw [if_pos (by omega)]; done)
    | (rw [if_neg (by omega), if_pos (by omega)]; done)
    | (rw [if_neg (by omega), if_neg (by omega)]; done)
   ·(try simp only [zB, reduceCtorEq] at hc15)
    refine aH ?_
    refine hK3 _ ?_; clear hK3; refine ae [0, 1, 4, 5, 9, 20] ?_; simp only [Y, lkp, zE, reduceCtorEq, E, Z, D]
    refine ad fun K17 hK17 => ?_
    refine ai hP hN rfl ?_
    (refine ab rfl fun K0 V => ?_; simp only [zE, op1, ev, lkp, ah, ag, ev, reduceCtorEq, E, D, J, U, O, S, Try.td3]; refine V _ ?_; clear V K0; simp only [put, app, aa, af, zE, zS, D])
    refine aj ?_
    refine hK17 _ ?_; clear hK17; refine ae [0, 1, 4, 5, 9, 20] ?_; simp only [Y, lkp, zE, reduceCtorEq, E, Z, D]
    refine aJ ?_
    refine ⟨by first | exact .inl rfl | exact .inr rfl, _, rfl, ?_⟩; simp only [fzV, fz1, fzC, List.map_cons, List.map_nil, Y, lkp, zE, reduceCtorEq, E, Z, D]
    refine VLE.of_eq ?_
    refine congrArg (fun n => AV.one (AC.int IntKind.i64 n)) ?_
    unfold i4
    symm
    first
    | (rw [if_pos (by omega)]; done)
    | (rw [if_neg (by omega), if_pos (by omega)]; done)
    | (rw [if_neg (by omega), if_neg (by omega)]; done)
end Go.Proofs.Ytdkgcbhbpdbmnaa
namespace Go.Proofs.Ytdkgcbhbpdbmnaa
open Go Go.AV
open Nat renaming reduceEqDiff → E, reduceAdd → D, reduceLeDiff → J, reduceLT → U, reduceMul → O, reduceSub → S
open List renaming set_cons_zero → ar, set_cons_succ → ao
set_option maxRecDepth 100000 in
theorem sM (a b : List Int) : bE Try.prog 37 [.one (.list (.int .i64) a), .one (.list (.int .i64) b)] (.one (.int .i64 (iu a b))) := by
 refine aV Try.func37 rfl (by kernel_rfl) (Nat.le_of_ble_eq_true rfl) rfl fun C hP hN hB => ?_
 replace hN : C.N = 18 := hN
 simp only [Z, D]
 refine ad fun K1 hK1 => ?_
 refine ai hP hN rfl ?_
 (refine ab rfl fun K0 V => ?_; simp only [zE, op1, ev, lkp, ah, ag, ev, reduceCtorEq, E, D, J, U, O, S, Try.td3]; refine V _ ?_; clear V K0; simp only [put, app, aa, af, zE, zS, D])
 refine aj ?_
 refine hK1 _ ?_; clear hK1; refine ae [0, 1, 4] ?_; simp only [Y, lkp, zE, reduceCtorEq, E, Z, D]
 refine ad fun K2 hK2 => ?_
 refine ad fun K3 hK3 => ?_
 refine ai hP hN rfl ?_
 iterate 5 (refine ab rfl fun K0 V => ?_; simp only [zE, op1, ev, lkp, ah, ag, aI, bu, bh, ba, bc, br, Nat.div_one, aO, be, Ty.size, aL, dite_true, aB, aC, aD, am, ay, aK, reduceCtorEq, E, D, J, U, O, S, Try.el26, Try.td26, Try.td3, Try.td4]; (repeat refine And.intro (by first | omega | assumption | exact rfl) ?_); (first | refine V _ ?_ | refine Or.inl (V _ ?_)); clear V K0; simp only [put, app, aa, af, zE, zS, D])
 refine aj ?_
 refine hK3 _ ?_; clear hK3; refine ae [0, 1, 4, 9] ?_; simp only [Y, lkp, zE, reduceCtorEq, E, Z, D]
 refine aG (by simp only [ev, Y, lkp, zE, reduceCtorEq, E, Z, D]; exact rfl) (fun hc4 => ?_) (fun hc4 => ?_)
 ·(try simp only [zB, reduceCtorEq] at hc4)
  refine ad fun K5 hK5 => ?_
  refine ai hP hN rfl ?_
  (refine ab rfl fun K0 V => ?_; simp only [zE, op1, ev, lkp, ah, ag, ev, reduceCtorEq, E, D, J, U, O, S, Try.td3]; refine V _ ?_; clear V K0; simp only [put, app, aa, af, zE, zS, D])
  refine aj ?_
  refine hK5 _ ?_; clear hK5; refine ae [0, 1, 4, 9] ?_; simp only [Y, lkp, zE, reduceCtorEq, E, Z, D]
  refine aJ ?_
  refine ⟨by first | exact .inl rfl | exact .inr rfl, _, rfl, ?_⟩; simp only [fzV, fz1, fzC, List.map_cons, List.map_nil, Y, lkp, zE, reduceCtorEq, E, Z, D]
  refine VLE.of_eq ?_
  refine congrArg (fun n => AV.one (AC.int IntKind.i64 n)) ?_
  unfold iu
  symm
  first
  | (rw [if_pos (by omega)]; done)
  | (rw [if_neg (by omega), if_pos (by omega)]; done)
  | (rw [if_neg (by omega), if_neg (by omega)]; done)
 ·(try simp only [zB, reduceCtorEq] at hc4)
  refine aH ?_
  refine hK2 _ ?_; clear hK2; refine ae [0, 1, 4, 9] ?_; simp only [Y, lkp, zE, reduceCtorEq, E, Z, D]
  refine ad fun K6 hK6 => ?_
  refine ad fun K7 hK7 => ?_
  refine ai hP hN rfl ?_
  iterate 5 (refine ab rfl fun K0 V => ?_; simp only [zE, op1, ev, lkp, ah, ag, aI, bu, bh, ba, bc, br, Nat.div_one, aO, be, Ty.size, aL, dite_true, aB, aC, aD, am, ay, aK, reduceCtorEq, E, D, J, U, O, S, Try.el26, Try.td26, Try.td3, Try.td4]; (repeat refine And.intro (by first | omega | assumption | exact rfl) ?_); (first | refine V _ ?_ | refine Or.inl (V _ ?_)); clear V K0; simp only [put, app, aa, af, zE, zS, D])
  refine aj ?_
  refine hK7 _ ?_; clear hK7; refine ae [0, 1, 4, 9, 14] ?_; simp only [Y, lkp, zE, reduceCtorEq, E, Z, D]
  refine aG (by simp only [ev, Y, lkp, zE, reduceCtorEq, E, Z, D]; exact rfl) (fun hc8 => ?_) (fun hc8 => ?_)
  ·(try simp only [zB, reduceCtorEq] at hc8)
   refine ad fun K9 hK9 => ?_
   refine ai hP hN rfl ?_
   (refine ab rfl fun K0 V => ?_; simp only [zE, op1, ev, lkp, ah, ag, ev, reduceCtorEq, E, D, J, U, O, S, Try.td3]; refine V _ ?_; clear V K0; simp only [put, app, aa, af, zE, zS, D])
   refine aj ?_
   refine hK9 _ ?_; clear hK9; refine ae [0, 1, 4, 9, 14] ?_; simp only [Y, lkp, zE, reduceCtorEq, E, Z, D]
   refine aJ ?_
   refine ⟨by first | exact .inl rfl | exact .inr rfl, _, rfl, ?_⟩; simp only [fzV, fz1, fzC, List.map_cons, List.map_nil, Y, lkp, zE, reduceCtorEq, E, Z, D]
   refine VLE.of_eq ?_
   refine congrArg (fun n => AV.one (AC.int IntKind.i64 n)) ?_
   unfold iu
   symm
   first
   | (rw [if_pos (by omega)]; done)
   | (rw [if_neg (by omega), if_pos (by omega)]; done)
   | (rw [if_neg (by omega), if_neg (by omega)]; done)
  ·(try simp only [zB, reduceCtorEq] at hc8)
   refine aH ?_
   refine hK6 _ ?_; clear hK6; refine ae [0, 1, 4, 9, 14] ?_; simp only [Y, lkp, zE, reduceCtorEq, E, Z, D]
   refine ad fun K10 hK10 => ?_
   refine ai hP hN rfl ?_
   iterate 2 (refine ab rfl fun K0 V => ?_; simp only [zE, op1, ev, lkp, ah, ag, ev, reduceCtorEq, E, D, J, U, O, S, Try.el26, Try.td26]; refine V _ ?_; clear V K0; simp only [put, app, aa, af, zE, zS, D])
   refine ab rfl fun K0 V => ?_
   refine aU (h := aF (sn a b)) rfl rfl (by first | exact rfl | (simp only [ev, Y, lkp, zE, reduceCtorEq, E, Z, D]; exact rfl)) (by simp only [zE, zG, op1, ev, lkp, ah, ag, aq, acs, aY, mv1, mvC, Ty.dflt, reduceCtorEq, E, D, J, U, O, S]) ?_
   refine V _ ?_; clear V K0; simp only [put, app, aa, af, zE, zS, D]
   (refine ab rfl fun K0 V => ?_; simp only [zE, op1, ev, lkp, ah, ag, ev, reduceCtorEq, E, D, J, U, O, S, Try.td3]; refine V _ ?_; clear V K0; simp only [put, app, aa, af, zE, zS, D])
   refine aj ?_
   refine hK10 _ ?_; clear hK10; refine ae [0, 1, 4, 9, 14] ?_; simp only [Y, lkp, zE, reduceCtorEq, E, Z, D]
   refine aJ ?_
   refine ⟨by first | exact .inl rfl | exact .inr rfl, _, rfl, ?_⟩; simp only [fzV, fz1, fzC, List.map_cons, List.map_nil, Y, lkp, zE, reduceCtorEq, E, Z, D]
   refine VLE.of_eq ?_
   refine congrArg (fun n => AV.one (AC.int IntKind.i64 n)) ?_
   unfold iu
   symm
   first
   | (rw [if_pos (by omega)]; done)
   | (rw [if_neg (by omega), if_pos (by omega)]; done)
   | (rw [if_neg (by omega), if_neg (by omega)]; done)
end Go.Proofs.Ytdkgcbhbpdbmnaa
namespace Go.Proofs.Ytdkgcbhbpdbmnaa
open Go Go.AV
open Nat renaming reduceEqDiff → E, reduceAdd → D, reduceLeDiff → J, reduceLT → U, reduceMul → O, reduceSub → S
open List renaming set_cons_zero → ar, set_cons_succ → ao
set_option maxRecDepth 100000 in
theorem kR (d : Dfa) : bE Try.prog 10 [d.av] (.one (.bool (grD d))) := by
 refine aV Try.func10 rfl (by kernel_rfl) (Nat.le_of_ble_eq_true rfl) rfl fun C hP hN hB => ?_
 replace hN : C.N = 32 := hN
 simp only [Z, D]
 refine ad fun K1 hK1 => ?_
 refine ai hP hN rfl ?_
 iterate 2 (refine ab rfl fun K0 V => ?_; simp only [zE, op1, ev, lkp, ah, ag, cd, aq, reduceCtorEq, E, D, J, U, O, S, Try.st25, Try.td25, Try.td4, Dfa.av]; (repeat refine And.intro (by first | omega | assumption | exact rfl) ?_); refine V _ ?_; clear V K0; simp only [put, app, aa, af, zE, zS, D])
 refine aj ?_
 refine hK1 _ ?_; clear hK1; refine ae [0, 1, 2] ?_; simp only [Y, lkp, zE, reduceCtorEq, E, Z, D]
 refine ad fun K2 hK2 => ?_
 refine ad fun K3 hK3 => ?_
 refine ai hP hN rfl ?_
 (refine ab rfl fun K0 V => ?_; simp only [zE, op1, ev, lkp, ah, ag, ev, reduceCtorEq, E, D, J, U, O, S, Try.td3, Dfa.av]; refine V _ ?_; clear V K0; simp only [put, app, aa, af, zE, zS, D])
 refine aj ?_
 refine hK3 _ ?_; clear hK3; refine ae [0, 1, 2, 3] ?_; simp only [Y, lkp, zE, reduceCtorEq, E, Z, D]
 refine aS ?_
 refine bC (fun n4 s4 => ∃ (k : Nat), (k ≤ d.nx.length) ∧ (∀ q, q < k → (d.nx.getD q []).length ≤ 6) ∧ (k ≤ 13) ∧ n4 = d.nx.length - k ∧ s4 = { env := [(1, .one (.ptr 0 0 0 0)), (2, .one (.bool false)), (3, .one (.int .i64 (k : Int)))], L := [.vars 25 [.int .i64 d.inp, .int .i64 d.st, .list (.list (.int .i64)) d.nx, .list .bool d.acc]] }) ?_ ?_
 ·exact ⟨_, _, aN [1, 2, 3], 0, Nat.zero_le _, fun q hq => by omega, by omega, rfl, rfl⟩
 ·rintro n4 s4 ⟨k, hk, hq, hk7, rfl, rfl⟩
  refine ad fun K5 hK5 => ?_
  refine ad fun K6 hK6 => ?_
  refine ai hP hN rfl ?_
  iterate 5 (refine ab rfl fun K0 V => ?_; simp only [zE, op1, ev, lkp, ah, ag, aE, aA, Nat.mul_one, aw, az, acs, Ty.dflt, zG, au, aI, bu, bh, ba, bc, br, Nat.div_one, aO, be, Ty.size, aL, dite_true, aB, aC, aD, am, ay, aK, reduceCtorEq, E, D, J, U, O, S, Try.el22, Try.st25, Try.td2, Try.td22, Try.td25, Try.td3, Try.td4, Dfa.av]; (repeat refine And.intro (by first | omega | assumption | exact rfl) ?_); (first | refine V _ ?_ | refine Or.inl (V _ ?_)); clear V K0; simp only [put, app, aa, af, zE, zS, D])
  (refine ab rfl fun K0 V => ?_; simp only [zE, op1, ev, lkp, ah, ag, ev, reduceCtorEq, E, D, J, U, O, S, Try.td4, Dfa.av]; refine V _ ?_; clear V K0; simp only [put, app, aa, af, zE, zS, D])
  refine' aP (want := true) 2 rfl (m := 9) (by simp only [Y, lkp, zE, reduceCtorEq, E, Z, D]; exact rfl) (by kernel_rfl) rfl rfl rfl rfl rfl (fun hg7 => ?a7) ?b7 ?c7
  case a7 =>
   have hq7 := hg7; (try simp only [zB, reduceCtorEq] at hg7); simp only [List.take_succ_cons, List.take_zero, List.cons_append, List.nil_append]
   (refine ax rfl fun K0 V => ?_; simp only [zE, op1, ev, lkp, ah, ag, ev, reduceCtorEq, E, D, J, U, O, S, Try.td3, Dfa.av]; refine V _ ?_; clear V K0; simp only [put, app, aa, af, zE, zS, D])
   (refine ax rfl fun K0 V => ?_; simp only [zE, op1, ev, lkp, ah, ag, aB, aC, aD, am, ay, aK, reduceCtorEq, E, D, J, U, O, S, Try.td3, Try.td4, Dfa.av]; (repeat refine And.intro (by first | omega | assumption | exact rfl) ?_); refine V _ ?_; clear V K0; simp only [put, app, aa, af, zE, zS, D])
   (refine ab rfl fun K0 V => ?_; simp only [zE, op1, ev, lkp, ah, ag, aZ, reduceCtorEq, E, D, J, U, O, S, Try.td4, Dfa.av]; refine V _ ?_; clear V K0; simp only [put, app, aa, af, zE, zS, D])
   refine aj ?_
   refine ⟨by simp only [Y, lkp, zE, reduceCtorEq, E, Z, D]; exact rfl, rfl, ?_, rfl⟩; (repeat refine aQ rfl ?_); exact bb (by exact rfl) hq7
  case b7 => exact b0 (by first | rfl | (simp [bD]; done) | decide)
  simp only [aW, aT]
  refine aj ?_
  refine hK6 _ ?_; clear hK6; refine ae [1, 2, 3, 12] ?_; simp only [Y, lkp, zE, reduceCtorEq, E, Z, D]
  refine aG (by simp only [ev, Y, lkp, zE, reduceCtorEq, E, Z, D]; exact rfl) (fun hc8 => ?_) (fun hc8 => ?_)
  ·(try simp only [zB, reduceCtorEq] at hc8)
   refine aH ?_
   refine hK5 _ ?_; clear hK5; refine ae [1, 2, 3, 12] ?_; simp only [Y, lkp, zE, reduceCtorEq, E, Z, D]
   refine ad fun K9 hK9 => ?_
   refine aS ?_
   refine ad fun K10 hK10 => ?_
   refine ai hP hN rfl ?_
   iterate 7 (refine ab rfl fun K0 V => ?_; simp only [zE, op1, ev, lkp, ah, ag, aE, aA, Nat.mul_one, aw, az, acs, Ty.dflt, zG, au, aM, Ty.size, ne_eq, not_false_eq_true, Int.natCast_one, Int.mul_one, aI, bu, bh, ba, bc, br, Nat.div_one, aO, be, aL, dite_true, aB, aC, aD, am, ay, aK, reduceCtorEq, E, D, J, U, O, S, Try.el22, Try.el26, Try.st25, Try.td2, Try.td22, Try.td25, Try.td26, Try.td3, Try.td4, Dfa.av]; (repeat refine And.intro (by first | omega | assumption | exact rfl) ?_); (first | refine V _ ?_ | refine Or.inl (V _ ?_)); clear V K0; simp only [put, app, aa, af, zE, zS, D])
   refine aj ?_
   refine hK10 _ ?_; clear hK10; refine ae [1, 2, 3, 12, 21] ?_; simp only [Y, lkp, zE, reduceCtorEq, E, Z, D]
   refine aG (by simp only [ev, Y, lkp, zE, reduceCtorEq, E, Z, D]; exact rfl) (fun hc11 => ?_) (fun hc11 => ?_)
   ·(try simp only [zB, reduceCtorEq] at hc11)
    refine ad fun K12 hK12 => ?_
    refine ai hP hN rfl ?_
    (refine ab rfl fun K0 V => ?_; simp only [zE, op1, ev, lkp, ah, ag, ev, reduceCtorEq, E, D, J, U, O, S, Try.td4, Dfa.av]; refine V _ ?_; clear V K0; simp only [put, app, aa, af, zE, zS, D])
    refine aj ?_
    refine hK12 _ ?_; clear hK12; refine ae [1, 2, 3, 12, 21] ?_; simp only [Y, lkp, zE, reduceCtorEq, E, Z, D]
    refine aJ ?_
    refine ⟨by first | exact .inl rfl | exact .inr rfl, _, rfl, ?_⟩; simp only [fzV, fz1, fzC, List.map_cons, List.map_nil, Y, lkp, zE, reduceCtorEq, E, Z, D, Dfa.av]
    refine VLE.of_eq ?_
    refine congrArg (fun b => AV.one (AC.bool b)) ?_
    symm
    first
    | exact r8 (k := k) (by omega) (by omega) (by omega)
    | exact ru (k := k) (by omega) hq
   ·(try simp only [zB, reduceCtorEq] at hc11)
    refine aH ?_
    refine hK9 _ ?_; clear hK9; refine ae [1, 2, 3, 12, 21] ?_; simp only [Y, lkp, zE, reduceCtorEq, E, Z, D]
    refine ai hP hN rfl ?_
    iterate 3 (refine ab rfl fun K0 V => ?_; simp only [zE, op1, ev, lkp, ah, ag, aB, aC, aD, am, ay, aK, reduceCtorEq, E, D, J, U, O, S, Try.td3, Dfa.av]; (repeat refine And.intro (by first | omega | assumption | exact rfl) ?_); refine V _ ?_; clear V K0; simp only [put, app, aa, af, zE, zS, D])
    refine aj ?_
    refine ⟨_, _, ?_, aN [1, 2, 3], k + 1, by omega, fun q hq2 => ?_, by omega, rfl, rfl⟩
    · omega
    · by_cases e : q = k
      · rw [e]; omega
      · exact hq q (by omega)
  ·(try simp only [zB, reduceCtorEq] at hc8)
   refine bB ?_
   refine hK2 _ ?_; clear hK2; refine ae [1, 2, 3, 12] ?_; simp only [Y, lkp, zE, reduceCtorEq, E, Z, D]
   refine ad fun K13 hK13 => ?_
   refine ai hP hN rfl ?_
   iterate 4 (refine ab rfl fun K0 V => ?_; simp only [zE, op1, ev, lkp, ah, ag, aE, aA, Nat.mul_one, aw, az, acs, Ty.dflt, zG, au, aI, bu, bh, ba, bc, br, Nat.div_one, aO, be, Ty.size, aL, dite_true, aB, aC, aD, am, ay, aK, reduceCtorEq, E, D, J, U, O, S, Try.el22, Try.st25, Try.td2, Try.td22, Try.td25, Try.td3, Try.td4, Dfa.av]; (repeat refine And.intro (by first | omega | assumption | exact rfl) ?_); (first | refine V _ ?_ | refine Or.inl (V _ ?_)); clear V K0; simp only [put, app, aa, af, zE, zS, D])
   (refine ab rfl fun K0 V => ?_; simp only [zE, op1, ev, lkp, ah, ag, ev, reduceCtorEq, E, D, J, U, O, S, Try.td4, Dfa.av]; refine V _ ?_; clear V K0; simp only [put, app, aa, af, zE, zS, D])
   refine' aP (want := false) 4 rfl (m := 26) (by simp only [Y, lkp, zE, reduceCtorEq, E, Z, D]; exact rfl) (by kernel_rfl) rfl rfl rfl rfl rfl (fun hg14 => ?a14) ?b14 ?c14
   case a14 =>
    have hq14 := hg14; (try simp only [zB, reduceCtorEq] at hg14); simp only [List.take_succ_cons, List.take_zero, List.cons_append, List.nil_append]
    (refine ax rfl fun K0 V => ?_; simp only [zE, op1, ev, lkp, ah, ag, aE, reduceCtorEq, E, D, J, U, O, S, Try.st25, Try.td25, Try.td3, Dfa.av]; (repeat refine And.intro (by first | omega | assumption | exact rfl) ?_); refine V _ ?_; clear V K0; simp only [put, app, aa, af, zE, zS, D])
    (refine ax rfl fun K0 V => ?_; simp only [zE, op1, ev, lkp, ah, ag, aA, Nat.mul_one, aw, az, acs, Ty.dflt, zG, au, reduceCtorEq, E, D, J, U, O, S, Try.el23, Try.td23, Dfa.av]; (repeat refine And.intro (by first | omega | assumption | exact rfl) ?_); refine V _ ?_; clear V K0; simp only [put, app, aa, af, zE, zS, D])
    (refine ax rfl fun K0 V => ?_; simp only [zE, op1, ev, lkp, ah, ag, aI, bu, bh, ba, bc, br, Nat.div_one, aO, be, Ty.size, aL, dite_true, reduceCtorEq, E, D, J, U, O, S, Try.el23, Try.td23, Try.td3, Dfa.av]; (repeat refine And.intro (by first | omega | assumption | exact rfl) ?_); (first | refine V _ ?_ | refine Or.inl (V _ ?_)); clear V K0; simp only [put, app, aa, af, zE, zS, D])
    (refine ax rfl fun K0 V => ?_; simp only [zE, op1, ev, lkp, ah, ag, aB, aC, aD, am, ay, aK, reduceCtorEq, E, D, J, U, O, S, Try.td3, Try.td4, Dfa.av]; (repeat refine And.intro (by first | omega | assumption | exact rfl) ?_); refine V _ ?_; clear V K0; simp only [put, app, aa, af, zE, zS, D])
    (refine ab rfl fun K0 V => ?_; simp only [zE, op1, ev, lkp, ah, ag, aZ, reduceCtorEq, E, D, J, U, O, S, Try.td4, Dfa.av]; refine V _ ?_; clear V K0; simp only [put, app, aa, af, zE, zS, D])
    refine aj ?_
    refine ⟨by simp only [Y, lkp, zE, reduceCtorEq, E, Z, D]; exact rfl, rfl, ?_, rfl⟩; (repeat refine aQ rfl ?_); exact bb (by exact rfl) hq14
   case b14 => exact b0 (by first | rfl | (simp [bD]; done) | decide)
   simp only [aW, aT]
   (refine ab rfl fun K0 V => ?_; simp only [zE, op1, ev, lkp, ah, ag, ev, reduceCtorEq, E, D, J, U, O, S, Try.td4, Dfa.av]; refine V _ ?_; clear V K0; simp only [put, app, aa, af, zE, zS, D])
   refine aj ?_
   refine hK13 _ ?_; clear hK13; refine ae [1, 2, 3, 12] ?_; simp only [Y, lkp, zE, reduceCtorEq, E, Z, D]
   refine aJ ?_
   refine ⟨by first | exact .inl rfl | exact .inr rfl, _, rfl, ?_⟩; simp only [fzV, fz1, fzC, List.map_cons, List.map_nil, Y, lkp, zE, reduceCtorEq, E, Z, D, Dfa.av]
   refine VLE.of_eq ?_
   refine congrArg (fun b => AV.one (AC.bool b)) ?_
   symm
   first
   | exact r8 (k := k) (by omega) (by omega) (by omega)
   | exact ru (k := k) (by omega) hq
end Go.Proofs.Ytdkgcbhbpdbmnaa
namespace Go.AV
open Nat renaming reduceEqDiff → E, reduceAdd → D, reduceLeDiff → J, reduceLT → U, reduceMul → O, reduceSub → S
open List renaming set_cons_zero → ar, set_cons_succ → ao
/-plain-/
/-! On dmeqTh, dfmTh. -/
theorem sv {d : Dfa} (h : DOK d) : d.acc.length ≤ 1000 := by have := h.al; have := h.n2; omega
theorem rQ (d : Dfa) : (cW d).acc.length ≤ 1000 := by
  by_cases h : bm d = 0
  · exact sv (kS (dK h))
  · rw [show cW d = dw from if_neg h]; decide
end Go.AV
namespace Go.AV
open Nat renaming reduceEqDiff → E, reduceAdd → D, reduceLeDiff → J, reduceLT → U, reduceMul → O, reduceSub → S
open List renaming set_cons_zero → ar, set_cons_succ → ao
/-plain-/
/-! On dmeqTh, dfmTh, dselfTh. -/
theorem gL {n : Int} {w : List Int} (hn : 1 ≤ n ∧ n ≤ 1024) (hw : d7 n w) (hl : w.length ≤ 1024) : bW w n = 0 := fu hn.1 hn.2 ⟨hl, kA hw⟩
theorem fc {n : Int} {w : List Int} (h : bW w n = 0) : d7 n w := qC (oO h).sym
theorem dJ {d : Dfa} {w : List Int} (hd : DOK d) (h : bW w d.inp = 0) : acV d w = d.ac (d.run d.st w) ∧ acE d w = 0 := by
  have := ma hd.valid h; exact ⟨this.2, this.1⟩
/-! Combinations. -/
theorem oz {op : Int} {a b : Dfa} (ht : cL a b = 0) (ho : 0 ≤ op ∧ op ≤ 3) (hL : (cM a b).length ≤ 128) : cY op a b = dBn (er a b) (i7 op a b) a.inp.toNat (cM a b) ∧ dc op a b = 0 ∧ DOK (cY op a b) ∧ (cY op a b).inp = a.inp := by
  obtain ⟨ha, hb, hi⟩ := du ht
  have i1 := ha.i1; have i2 := ha.i2
  have e : cY op a b = dBn (er a b) (i7 op a b) a.inp.toNat (cM a b) := by
    unfold cY; rw [if_neg (by omega), if_pos ht]; exact if_neg (by omega)
  refine ⟨e, by unfold dc; rw [if_neg (by omega), if_pos ht]; exact if_neg (by omega), ?_, ?_⟩
  · rw [e]
    exact oA (ku (em ha hb hi (n := a.inp.toNat) (by omega)) (eV ha hb)) (by omega) (by omega) (lb _ _ _ _) hL
  · rw [e]; show ((a.inp.toNat : Nat) : Int) = a.inp; omega
theorem nn {op : Int} {a b : Dfa} (ht : cL a b = 0) (ho : 0 ≤ op ∧ op ≤ 3) (hL : ¬ (cM a b).length ≤ 128) : dc op a b = 11 := by
  unfold dc; rw [if_neg (by omega), if_pos ht]; exact if_pos (by omega)
theorem pi {op : Int} {a b : Dfa} (ht : cL a b = 0) (ho : 0 ≤ op ∧ op ≤ 3) (hE : dc op a b = 0) {w : List Int} (hw : bW w a.inp = 0) : acV (cY op a b) w = opB op (acV a w) (acV b w) ∧ acE (cY op a b) w = 0 := by
  obtain ⟨ha, hb, hi⟩ := du ht
  have i1 := ha.i1
  have hL : (cM a b).length ≤ 128 := Decidable.byContradiction fun h => by have := nn ht ho h; omega
  obtain ⟨e, _, hok, hinp⟩ := oz ht ho hL
  obtain ⟨h1, h2⟩ := dJ hok (w := w) (by rw [hinp]; exact hw)
  refine ⟨?_, h2⟩
  rw [h1, (dJ ha hw).1, (dJ hb (hi ▸ hw)).1, e]
  have hs := fc hw
  have := l7 (G := i7 op a b) (em ha hb hi (n := a.inp.toNat) (by omega)) (eV ha hb) (w := w) (by rw [Int.toNat_of_nonneg (by omega)]; exact hs)
  rw [lP a b w _ _ hs] at this
  exact this
theorem rj {op : Int} {a b : Dfa} (ht : cL a b = 0) (ho : 0 ≤ op ∧ op ≤ 3) (hE : ¬ dc op a b = 0) : dc op a b = 11 ∧ 128 < a.nx.length * b.nx.length := by
  obtain ⟨ha, hb, hi⟩ := du ht
  have i1 := ha.i1
  have hL : ¬ (cM a b).length ≤ 128 := fun h => hE (oz ht ho h).2.1
  have := ne (em ha hb hi (n := a.inp.toNat) (by omega)) (eV ha hb)
  refine ⟨nn ht ho hL, ?_⟩
  unfold cM at hL; omega
theorem t4 {op : Int} {x y : Bool} (h : op = 0) : opB op x y = (x && y) := if_pos h
theorem qr {op : Int} {x y : Bool} (h : op = 1) : opB op x y = (x || y) := by subst h; rfl
theorem m8 {op : Int} {x y : Bool} (h : op = 2) : opB op x y = (x && !y) := by subst h; rfl
theorem lZ {op : Int} {x y : Bool} (h : op ≠ 0) (h1 : op ≠ 1) (h2 : op ≠ 2) : opB op x y = !decide (x = y) := by
  unfold opB; rw [if_neg h, if_neg h1, if_neg h2]; cases x <;> cases y <;> rfl
/-! Differences. -/
theorem sI {g : PP → Bool} {l : List W3} : ∀ e, e ∈ dQ g l → e ∈ l := fun e he => by
  unfold dQ at he
  split at he
  · exact List.mem_of_mem_take he
  · exact he
theorem s7 {g : PP → Bool} {n1 n2 : Nat} {l : List W3} (h : DW n1 n2 l) : (laW g l).length ≤ n1 * n2 := by
  unfold laW
  split
  · rename_i hb
    have h1 := mc hb
    have h2 := h.wl _ (sI _ (dn (l := dQ g l) (i := (dQ g l).length - 1) (by omega)))
    have h3 := h.le
    omega
  · simp
theorem rR {a b : Dfa} (ht : cL a b = 0) : (dA a b).length ≤ a.nx.length * b.nx.length := by
  obtain ⟨ha, hb, hi⟩ := du ht
  have i1 := ha.i1
  rw [show dA a b = laW (dS a b) (cM a b) from if_pos ht]
  exact s7 (d4 (em ha hb hi (n := a.inp.toNat) (by omega)) (eV ha hb)).1
theorem sL {a b : Dfa} (ht : cL a b = 0) (hm : a.nx.length * b.nx.length ≤ 1024) : ee a b = !decide (acV a (dA a b) = acV b (dA a b)) := by
  obtain ⟨ha, hb, hi⟩ := du ht
  obtain ⟨h1, h2, h3⟩ := j6 ht
  have hl := rR ht
  have hiv : 1 ≤ a.inp ∧ a.inp ≤ 1024 := ⟨ha.i1, ha.i2⟩
  cases e : ee a b with
  | true =>
    obtain ⟨g1, g2⟩ := h1 e
    have hw := gL hiv g1 (by omega)
    rw [(dJ ha hw).1, (dJ hb (hi ▸ hw)).1, decide_eq_false g2]; rfl
  | false =>
    obtain ⟨g1, g2⟩ := h2 e
    have hs : d7 a.inp (dA a b) := by rw [g1]; exact fun x hx => by cases hx
    have hw := gL hiv hs (by omega)
    rw [(dJ ha hw).1, (dJ hb (hi ▸ hw)).1, decide_eq_true (g2 _ hs)]; rfl
theorem qK {a b : Dfa} (ht : cL a b = 0) {w : List Int} (hw : bW w a.inp = 0) (hne : ¬ acV a w = acV b w) : ee a b = true ∧ iu (dA a b) w ≤ 0 := by
  obtain ⟨ha, hb, hi⟩ := du ht
  rw [(dJ ha hw).1, (dJ hb (hi ▸ hw)).1] at hne
  obtain ⟨h1, h2⟩ := (j6 ht).2.2 w (fc hw) hne
  exact ⟨h1, h2.cmp⟩
theorem o7 {a b : Dfa} (ht : cL a b = 0) : fM (cW a) (cW b) = !ee a b := by
  have h := kM ht
  cases e : ee a b with
  | false => rw [hM.2 (h.2 e)]; rfl
  | true =>
    cases e2 : fM (cW a) (cW b) with
    | false => rfl
    | true => rw [h.1 (hM.1 e2)] at e; cases e
theorem qR {d : Dfa} (hd : DOK d) {w : List Int} (hw : bW w d.inp = 0) : acV (cW d) w = acV d w ∧ acE (cW d) w = 0 ∧ (cW d).nx.length ≤ d.nx.length := by
  have i1 := hd.i1
  have hI : (cW d).inp = d.inp := by rw [eO hd]; show ((d.inp.toNat : Nat) : Int) = d.inp; omega
  obtain ⟨h1, h2⟩ := dJ (kS hd) (w := w) (by rw [hI]; exact hw)
  refine ⟨by rw [h1, (dJ hd hw).1, hZ hd (fc hw)], h2, ?_⟩
  have := kf hd
  rw [eO hd, mn.1]; exact this
/-! Counting. -/
def cV (d : Dfa) (k : Nat) : Int := (cO d k).getD d.st.toNat 0
structure CNT (d : Dfa) (k : Nat) : Prop where
  e1 : cuE d k = 0
  e2 : cuE (coD d) k = 0
  v1 : cuV d k = cV d k
  x0 : 0 ≤ cuV d k
  y0 : 0 ≤ cuV (coD d) k
  sm : cuV d k + cuV (coD d) k = d.inp ^ k
  pb : d.inp ^ k ≤ 205891132094649
  pp : 1 ≤ d.inp ^ k
def qi (d : Dfa) (k : Nat) : Int := match (List.range k).find? (fun j => decide (0 < cV d j)) with | some j => (j : Int) | none => -1
/-- The shortest accepted word. -/
structure SHO (d : Dfa) (k : Nat) : Prop where
  yes : 0 ≤ qi d k → jf d = true ∧ ((gJ d).length : Int) = qi d k
  no : jf d = false → qi d k < 0 ∧ gJ d = []
  ac : jf d = true → acV d (gJ d) = true ∧ acE d (gJ d) = 0
/-! There and back. -/
structure TOM (d : Dfa) (M : Mly) : Prop where
  e : toE d = 0
  eq : M = ⟨d.inp, d.st, d.nx, d.om⟩
  ok : MOK M
structure TRP (d : Dfa) (acc : Bool) : Prop where
  fe : fmE (toM d) acc = 0
  tw : cL (fmD (toM d) acc) d = 0
  nd : ee (fmD (toM d) acc) d = false
end Go.AV
namespace Go.Proofs.Ytdkgcbhbpdbmnaa
open Go Go.AV
open Nat renaming reduceEqDiff → E, reduceAdd → D, reduceLeDiff → J, reduceLT → U, reduceMul → O, reduceSub → S
open List renaming set_cons_zero → ar, set_cons_succ → ao
set_option maxRecDepth 100000 in
theorem sl (n : Int) : bE Try.prog 52 [.one (.int .i64 n)] (.one (.bool (decide (1 ≤ n) && decide (n ≤ 1024)))) := by
 refine aV Try.func52 rfl (by kernel_rfl) (Nat.le_of_ble_eq_true rfl) rfl fun C hP hN hB => ?_
 replace hN : C.N = 9 := hN
 simp only [Z, D]
 refine ad fun K1 hK1 => ?_
 refine ai hP hN rfl ?_
 (refine ab rfl fun K0 V => ?_; simp only [zE, op1, ev, lkp, ah, ag, ev, reduceCtorEq, E, D, J, U, O, S, Try.td4]; refine V _ ?_; clear V K0; simp only [put, app, aa, af, zE, zS, D])
 refine aj ?_
 refine hK1 _ ?_; clear hK1; refine ae [0, 2] ?_; simp only [Y, lkp, zE, reduceCtorEq, E, Z, D]
 refine ad fun K2 hK2 => ?_
 refine ai hP hN rfl ?_
 iterate 2 (refine ab rfl fun K0 V => ?_; simp only [zE, op1, ev, lkp, ah, ag, aB, aC, aD, am, ay, aK, reduceCtorEq, E, D, J, U, O, S, Try.td3, Try.td4]; (repeat refine And.intro (by first | omega | assumption | exact rfl) ?_); refine V _ ?_; clear V K0; simp only [put, app, aa, af, zE, zS, D])
 (refine ab rfl fun K0 V => ?_; simp only [zE, op1, ev, lkp, ah, ag, ev, reduceCtorEq, E, D, J, U, O, S, Try.td4]; refine V _ ?_; clear V K0; simp only [put, app, aa, af, zE, zS, D])
 refine' aP (want := true) 2 rfl (m := 5) (by simp only [Y, lkp, zE, reduceCtorEq, E, Z, D]; exact rfl) (by kernel_rfl) rfl rfl rfl rfl rfl (fun hg3 => ?a3) ?b3 ?c3
 case a3 =>
  have hq3 := hg3; (try simp only [zB, reduceCtorEq] at hg3); simp only [List.take_succ_cons, List.take_zero, List.cons_append, List.nil_append]
  (refine ax rfl fun K0 V => ?_; simp only [zE, op1, ev, lkp, ah, ag, ev, reduceCtorEq, E, D, J, U, O, S, Try.td3]; refine V _ ?_; clear V K0; simp only [put, app, aa, af, zE, zS, D])
  (refine ax rfl fun K0 V => ?_; simp only [zE, op1, ev, lkp, ah, ag, aB, aC, aD, am, ay, aK, reduceCtorEq, E, D, J, U, O, S, Try.td3, Try.td4]; (repeat refine And.intro (by first | omega | assumption | exact rfl) ?_); refine V _ ?_; clear V K0; simp only [put, app, aa, af, zE, zS, D])
  (refine ab rfl fun K0 V => ?_; simp only [zE, op1, ev, lkp, ah, ag, aZ, reduceCtorEq, E, D, J, U, O, S, Try.td4]; refine V _ ?_; clear V K0; simp only [put, app, aa, af, zE, zS, D])
  refine aj ?_
  refine ⟨by simp only [Y, lkp, zE, reduceCtorEq, E, Z, D]; exact rfl, rfl, ?_, rfl⟩; (repeat refine aQ rfl ?_); exact bb (by exact rfl) hq3
 case b3 => exact b0 (by first | rfl | (simp [bD]; done) | decide)
 simp only [aW, aT]
 (refine ab rfl fun K0 V => ?_; simp only [zE, op1, ev, lkp, ah, ag, ev, reduceCtorEq, E, D, J, U, O, S, Try.td4]; refine V _ ?_; clear V K0; simp only [put, app, aa, af, zE, zS, D])
 refine aj ?_
 refine hK2 _ ?_; clear hK2; refine ae [0, 2] ?_; simp only [Y, lkp, zE, reduceCtorEq, E, Z, D]
 refine aJ ?_
 refine ⟨by first | exact .inl rfl | exact .inr rfl, _, rfl, ?_⟩; simp only [fzV, fz1, fzC, List.map_cons, List.map_nil, Y, lkp, zE, reduceCtorEq, E, Z, D]
 refine VLE.of_eq ?_
 rfl
end Go.Proofs.Ytdkgcbhbpdbmnaa
namespace Go.Proofs.Ytdkgcbhbpdbmnaa
open Go Go.AV
open Nat renaming reduceEqDiff → E, reduceAdd → D, reduceLeDiff → J, reduceLT → U, reduceMul → O, reduceSub → S
open List renaming set_cons_zero → ar, set_cons_succ → ao
set_option maxRecDepth 100000 in
theorem pE (w : List Int) (n : Int) : bE Try.prog 36 [.one (.list (.int .i64) w), .one (.int .i64 n)] (.one (.int .i64 (bW w n))) := by
 refine aV Try.func36 rfl (by kernel_rfl) (Nat.le_of_ble_eq_true rfl) rfl fun C hP hN hB => ?_
 replace hN : C.N = 31 := hN
 simp only [Z, D]
 refine ad fun K1 hK1 => ?_
 refine ai hP hN rfl ?_
 (refine ab rfl fun K0 V => ?_; simp only [zE, op1, ev, lkp, ah, ag, ev, reduceCtorEq, E, D, J, U, O, S, Try.td3]; refine V _ ?_; clear V K0; simp only [put, app, aa, af, zE, zS, D])
 refine aj ?_
 refine hK1 _ ?_; clear hK1; refine ae [0, 1, 4] ?_; simp only [Y, lkp, zE, reduceCtorEq, E, Z, D]
 refine ad fun K2 hK2 => ?_
 refine ad fun K3 hK3 => ?_
 refine ai hP hN rfl ?_
 (refine ab rfl fun K0 V => ?_; simp only [zE, op1, ev, lkp, ah, ag, ev, reduceCtorEq, E, D, J, U, O, S, Try.td3]; refine V _ ?_; clear V K0; simp only [put, app, aa, af, zE, zS, D])
 refine ab rfl fun K0 V => ?_
 refine aU (h := aF (sl n)) rfl rfl (by first | exact rfl | (simp only [ev, Y, lkp, zE, reduceCtorEq, E, Z, D]; exact rfl)) (by simp only [zE, zG, op1, ev, lkp, ah, ag, aq, acs, aY, mv1, mvC, Ty.dflt, reduceCtorEq, E, D, J, U, O, S]) ?_
 refine V _ ?_; clear V K0; simp only [put, app, aa, af, zE, zS, D]
 (refine ab rfl fun K0 V => ?_; simp only [zE, op1, ev, lkp, ah, ag, ew, reduceCtorEq, E, D, J, U, O, S, Try.td4]; (repeat refine And.intro (by first | omega | assumption | exact rfl) ?_); refine V _ ?_; clear V K0; simp only [put, app, aa, af, zE, zS, D])
 refine aj ?_
 refine hK3 _ ?_; clear hK3; refine ae [0, 1, 4, 8] ?_; simp only [Y, lkp, zE, reduceCtorEq, E, Z, D]
 refine aG (by simp only [ev, Y, lkp, zE, reduceCtorEq, E, Z, D]; exact rfl) (fun hc4 => ?_) (fun hc4 => ?_)
 ·(try simp only [zB, reduceCtorEq] at hc4)
  refine ad fun K5 hK5 => ?_
  refine ai hP hN rfl ?_
  (refine ab rfl fun K0 V => ?_; simp only [zE, op1, ev, lkp, ah, ag, ev, reduceCtorEq, E, D, J, U, O, S, Try.td3]; refine V _ ?_; clear V K0; simp only [put, app, aa, af, zE, zS, D])
  refine aj ?_
  refine hK5 _ ?_; clear hK5; refine ae [0, 1, 4, 8] ?_; simp only [Y, lkp, zE, reduceCtorEq, E, Z, D]
  refine aJ ?_
  refine ⟨by first | exact .inl rfl | exact .inr rfl, _, rfl, ?_⟩; simp only [fzV, fz1, fzC, List.map_cons, List.map_nil, Y, lkp, zE, reduceCtorEq, E, Z, D]
  refine VLE.of_eq ?_
  refine congrArg (fun n => AV.one (AC.int IntKind.i64 n)) ?_
  symm
  first
  | (unfold bW; rw [if_pos (by omega)]; done)
  | (unfold bW; rw [if_neg (by omega), if_pos (by omega)]; done)
  | exact fI (by omega) (by omega) (by omega) (i := k) (by omega) (by omega)
  | exact fu (by omega) (by omega) ⟨by omega, fun i hi => hI i (by omega)⟩
 ·(try simp only [zB, reduceCtorEq] at hc4)
  refine aH ?_
  refine hK2 _ ?_; clear hK2; refine ae [0, 1, 4, 8] ?_; simp only [Y, lkp, zE, reduceCtorEq, E, Z, D]
  refine ad fun K6 hK6 => ?_
  refine ad fun K7 hK7 => ?_
  refine ai hP hN rfl ?_
  iterate 3 (refine ab rfl fun K0 V => ?_; simp only [zE, op1, ev, lkp, ah, ag, aI, bu, bh, ba, bc, br, Nat.div_one, aO, be, Ty.size, aL, dite_true, aB, aC, aD, am, ay, aK, reduceCtorEq, E, D, J, U, O, S, Try.el26, Try.td26, Try.td3, Try.td4]; (repeat refine And.intro (by first | omega | assumption | exact rfl) ?_); (first | refine V _ ?_ | refine Or.inl (V _ ?_)); clear V K0; simp only [put, app, aa, af, zE, zS, D])
  refine aj ?_
  refine hK7 _ ?_; clear hK7; refine ae [0, 1, 4, 8, 11] ?_; simp only [Y, lkp, zE, reduceCtorEq, E, Z, D]
  refine aG (by simp only [ev, Y, lkp, zE, reduceCtorEq, E, Z, D]; exact rfl) (fun hc8 => ?_) (fun hc8 => ?_)
  ·(try simp only [zB, reduceCtorEq] at hc8)
   refine ad fun K9 hK9 => ?_
   refine ai hP hN rfl ?_
   (refine ab rfl fun K0 V => ?_; simp only [zE, op1, ev, lkp, ah, ag, ev, reduceCtorEq, E, D, J, U, O, S, Try.td3]; refine V _ ?_; clear V K0; simp only [put, app, aa, af, zE, zS, D])
   refine aj ?_
   refine hK9 _ ?_; clear hK9; refine ae [0, 1, 4, 8, 11] ?_; simp only [Y, lkp, zE, reduceCtorEq, E, Z, D]
   refine aJ ?_
   refine ⟨by first | exact .inl rfl | exact .inr rfl, _, rfl, ?_⟩; simp only [fzV, fz1, fzC, List.map_cons, List.map_nil, Y, lkp, zE, reduceCtorEq, E, Z, D]
   refine VLE.of_eq ?_
   refine congrArg (fun n => AV.one (AC.int IntKind.i64 n)) ?_
   symm
   first
   | (unfold bW; rw [if_pos (by omega)]; done)
   | (unfold bW; rw [if_neg (by omega), if_pos (by omega)]; done)
   | exact fI (by omega) (by omega) (by omega) (i := k) (by omega) (by omega)
   | exact fu (by omega) (by omega) ⟨by omega, fun i hi => hI i (by omega)⟩
  ·(try simp only [zB, reduceCtorEq] at hc8)
   refine aH ?_
   refine hK6 _ ?_; clear hK6; refine ae [0, 1, 4, 8, 11] ?_; simp only [Y, lkp, zE, reduceCtorEq, E, Z, D]
   refine ad fun K10 hK10 => ?_
   refine ad fun K11 hK11 => ?_
   refine ai hP hN rfl ?_
   (refine ab rfl fun K0 V => ?_; simp only [zE, op1, ev, lkp, ah, ag, ev, reduceCtorEq, E, D, J, U, O, S, Try.td3]; refine V _ ?_; clear V K0; simp only [put, app, aa, af, zE, zS, D])
   refine aj ?_
   refine hK11 _ ?_; clear hK11; refine ae [0, 1, 4, 5, 8, 11] ?_; simp only [Y, lkp, zE, reduceCtorEq, E, Z, D]
   refine aS ?_
   refine bC (fun n12 s12 => ∃ (k : Nat), (k ≤ w.length) ∧ (∀ i, i < k → 0 ≤ w.getD i 0 ∧ w.getD i 0 < n) ∧ n12 = w.length - k ∧ s12 = { env := [(0, .one (.list (.int .i64) w)), (1, .one (.int .i64 n)), (5, .one (.int .i64 (k : Int)))], L := [] }) ?_ ?_
   ·exact ⟨_, _, aN [0, 1, 5], 0, Nat.zero_le _, fun i hi => by omega, rfl, rfl⟩
   ·rintro n12 s12 ⟨k, hk, hI, rfl, rfl⟩
    refine ad fun K13 hK13 => ?_
    refine ad fun K14 hK14 => ?_
    refine ai hP hN rfl ?_
    iterate 4 (refine ab rfl fun K0 V => ?_; simp only [zE, op1, ev, lkp, ah, ag, aI, bu, bh, ba, bc, br, Nat.div_one, aO, be, Ty.size, aL, dite_true, aB, aC, aD, am, ay, aK, reduceCtorEq, E, D, J, U, O, S, Try.el26, Try.td26, Try.td3, Try.td4]; (repeat refine And.intro (by first | omega | assumption | exact rfl) ?_); (first | refine V _ ?_ | refine Or.inl (V _ ?_)); clear V K0; simp only [put, app, aa, af, zE, zS, D])
    refine aj ?_
    refine hK14 _ ?_; clear hK14; refine ae [0, 1, 5, 15] ?_; simp only [Y, lkp, zE, reduceCtorEq, E, Z, D]
    refine aG (by simp only [ev, Y, lkp, zE, reduceCtorEq, E, Z, D]; exact rfl) (fun hc15 => ?_) (fun hc15 => ?_)
    ·(try simp only [zB, reduceCtorEq] at hc15)
     refine aH ?_
     refine hK13 _ ?_; clear hK13; refine ae [0, 1, 5, 15] ?_; simp only [Y, lkp, zE, reduceCtorEq, E, Z, D]
     refine ad fun K16 hK16 => ?_
     refine aS ?_
     refine ad fun K17 hK17 => ?_
     refine ai hP hN rfl ?_
     iterate 5 (refine ab rfl fun K0 V => ?_; simp only [zE, op1, ev, lkp, ah, ag, aM, zG, Ty.dflt, Ty.size, Nat.mul_one, ne_eq, not_false_eq_true, Int.natCast_one, Int.mul_one, aA, aw, az, acs, au, aB, aC, aD, am, ay, aK, reduceCtorEq, E, D, J, U, O, S, Try.el26, Try.td26, Try.td3, Try.td4]; (repeat refine And.intro (by first | omega | assumption | exact rfl) ?_); refine V _ ?_; clear V K0; simp only [put, app, aa, af, zE, zS, D])
     (refine ab rfl fun K0 V => ?_; simp only [zE, op1, ev, lkp, ah, ag, ev, reduceCtorEq, E, D, J, U, O, S, Try.td4]; refine V _ ?_; clear V K0; simp only [put, app, aa, af, zE, zS, D])
     refine' aP (want := false) 6 rfl (m := 23) (by simp only [Y, lkp, zE, reduceCtorEq, E, Z, D]; exact rfl) (by kernel_rfl) rfl rfl rfl rfl rfl (fun hg18 => ?a18) ?b18 ?c18
     case a18 =>
      have hq18 := hg18; (try simp only [zB, reduceCtorEq] at hg18); simp only [List.take_succ_cons, List.take_zero, List.cons_append, List.nil_append]
      (refine ax rfl fun K0 V => ?_; simp only [zE, op1, ev, lkp, ah, ag, ev, reduceCtorEq, E, D, J, U, O, S, Try.el26, Try.td26]; refine V _ ?_; clear V K0; simp only [put, app, aa, af, zE, zS, D])
      (refine ax rfl fun K0 V => ?_; simp only [zE, op1, ev, lkp, ah, ag, ev, reduceCtorEq, E, D, J, U, O, S, Try.td3]; refine V _ ?_; clear V K0; simp only [put, app, aa, af, zE, zS, D])
      (refine ax rfl fun K0 V => ?_; simp only [zE, op1, ev, lkp, ah, ag, aM, zG, Ty.dflt, Ty.size, Nat.mul_one, ne_eq, not_false_eq_true, Int.natCast_one, Int.mul_one, reduceCtorEq, E, D, J, U, O, S, Try.el26, Try.td26]; (repeat refine And.intro (by first | omega | assumption | exact rfl) ?_); refine V _ ?_; clear V K0; simp only [put, app, aa, af, zE, zS, D])
      (refine ax rfl fun K0 V => ?_; simp only [zE, op1, ev, lkp, ah, ag, aA, Nat.mul_one, aw, az, acs, Ty.dflt, zG, au, reduceCtorEq, E, D, J, U, O, S, Try.td3]; (repeat refine And.intro (by first | omega | assumption | exact rfl) ?_); refine V _ ?_; clear V K0; simp only [put, app, aa, af, zE, zS, D])
      (refine ax rfl fun K0 V => ?_; simp only [zE, op1, ev, lkp, ah, ag, ev, reduceCtorEq, E, D, J, U, O, S, Try.td3]; refine V _ ?_; clear V K0; simp only [put, app, aa, af, zE, zS, D])
      (refine ax rfl fun K0 V => ?_; simp only [zE, op1, ev, lkp, ah, ag, aB, aC, aD, am, ay, aK, reduceCtorEq, E, D, J, U, O, S, Try.td3, Try.td4]; (repeat refine And.intro (by first | omega | assumption | exact rfl) ?_); refine V _ ?_; clear V K0; simp only [put, app, aa, af, zE, zS, D])
      (refine ab rfl fun K0 V => ?_; simp only [zE, op1, ev, lkp, ah, ag, aZ, reduceCtorEq, E, D, J, U, O, S, Try.td4]; refine V _ ?_; clear V K0; simp only [put, app, aa, af, zE, zS, D])
      refine aj ?_
      refine ⟨by simp only [Y, lkp, zE, reduceCtorEq, E, Z, D]; exact rfl, rfl, ?_, rfl⟩; (repeat refine aQ rfl ?_); exact bb (by exact rfl) hq18
     case b18 => exact b0 (by first | rfl | (simp [bD]; done) | decide)
     simp only [aW, aT]
     refine aj ?_
     refine hK17 _ ?_; clear hK17; refine ae [0, 1, 5, 15, 30] ?_; simp only [Y, lkp, zE, reduceCtorEq, E, Z, D]
     refine aG (by simp only [ev, Y, lkp, zE, reduceCtorEq, E, Z, D]; exact rfl) (fun hc19 => ?_) (fun hc19 => ?_)
     ·(try simp only [zB, reduceCtorEq] at hc19)
      refine ad fun K20 hK20 => ?_
      refine ai hP hN rfl ?_
      (refine ab rfl fun K0 V => ?_; simp only [zE, op1, ev, lkp, ah, ag, ev, reduceCtorEq, E, D, J, U, O, S, Try.td3]; refine V _ ?_; clear V K0; simp only [put, app, aa, af, zE, zS, D])
      refine aj ?_
      refine hK20 _ ?_; clear hK20; refine ae [0, 1, 4, 5, 15, 30] ?_; simp only [Y, lkp, zE, reduceCtorEq, E, Z, D]
      refine aJ ?_
      refine ⟨by first | exact .inl rfl | exact .inr rfl, _, rfl, ?_⟩; simp only [fzV, fz1, fzC, List.map_cons, List.map_nil, Y, lkp, zE, reduceCtorEq, E, Z, D]
      refine VLE.of_eq ?_
      refine congrArg (fun n => AV.one (AC.int IntKind.i64 n)) ?_
      symm
      first
      | (unfold bW; rw [if_pos (by omega)]; done)
      | (unfold bW; rw [if_neg (by omega), if_pos (by omega)]; done)
      | exact fI (by omega) (by omega) (by omega) (i := k) (by omega) (by omega)
      | exact fu (by omega) (by omega) ⟨by omega, fun i hi => hI i (by omega)⟩
     ·(try simp only [zB, reduceCtorEq] at hc19)
      refine aH ?_
      refine hK16 _ ?_; clear hK16; refine ae [0, 1, 5, 15, 30] ?_; simp only [Y, lkp, zE, reduceCtorEq, E, Z, D]
      refine ai hP hN rfl ?_
      iterate 3 (refine ab rfl fun K0 V => ?_; simp only [zE, op1, ev, lkp, ah, ag, aB, aC, aD, am, ay, aK, reduceCtorEq, E, D, J, U, O, S, Try.td3]; (repeat refine And.intro (by first | omega | assumption | exact rfl) ?_); refine V _ ?_; clear V K0; simp only [put, app, aa, af, zE, zS, D])
      refine aj ?_
      refine ⟨_, _, ?_, aN [0, 1, 5], k + 1, by omega, fun i hi => ?_, rfl, rfl⟩
      · omega
      · by_cases e : i = k
        · rw [e]; omega
        · exact hI i (by omega)
    ·(try simp only [zB, reduceCtorEq] at hc15)
     refine bB ?_
     refine hK10 _ ?_; clear hK10; refine ae [0, 1, 5, 15] ?_; simp only [Y, lkp, zE, reduceCtorEq, E, Z, D]
     refine ad fun K21 hK21 => ?_
     refine ai hP hN rfl ?_
     (refine ab rfl fun K0 V => ?_; simp only [zE, op1, ev, lkp, ah, ag, ev, reduceCtorEq, E, D, J, U, O, S, Try.td3]; refine V _ ?_; clear V K0; simp only [put, app, aa, af, zE, zS, D])
     refine aj ?_
     refine hK21 _ ?_; clear hK21; refine ae [0, 1, 4, 5, 15] ?_; simp only [Y, lkp, zE, reduceCtorEq, E, Z, D]
     refine aJ ?_
     refine ⟨by first | exact .inl rfl | exact .inr rfl, _, rfl, ?_⟩; simp only [fzV, fz1, fzC, List.map_cons, List.map_nil, Y, lkp, zE, reduceCtorEq, E, Z, D]
     refine VLE.of_eq ?_
     refine congrArg (fun n => AV.one (AC.int IntKind.i64 n)) ?_
     symm
     first
     | (unfold bW; rw [if_pos (by omega)]; done)
     | (unfold bW; rw [if_neg (by omega), if_pos (by omega)]; done)
     | exact fI (by omega) (by omega) (by omega) (i := k) (by omega) (by omega)
     | exact fu (by omega) (by omega) ⟨by omega, fun i hi => hI i (by omega)⟩
end Go.Proofs.Ytdkgcbhbpdbmnaa
