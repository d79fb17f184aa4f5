/- Contracts of functions of this seat, each out of a walk through its code, and plain facts on what they compute. Conditions: those that each theorem names. -/
import Derived.Test.YtdkgcbhbpdbmnaaW04
set_option linter.unusedSimpArgs false
set_option linter.unusedVariables false
namespace Go.Proofs.Ytdkgcbhbpdbmnaa
open Go Go.AV
open Nat renaming reduceEqDiff → E, reduceAdd → D, reduceLeDiff → J, reduceLT → S, reduceMul → M, reduceSub → O
open List renaming set_cons_zero → ar, set_cons_succ → aq
set_option maxRecDepth 100000 in
theorem sQ (d : Dfa) : bH Try.prog 31 [d.av] (.tup [(toM d).av, .one (.int .i64 (toE d))]) := by
 refine aR Try.func31 rfl (by kernel_rfl) (Nat.le_of_ble_eq_true rfl) rfl fun C hP hN hB => ?_
 replace hN : C.N = 68 := hN
 simp only [Y, D]
 refine Z fun K1 hK1 => ?_
 refine ae hP hN rfl ?_
 iterate 3 (refine ab rfl fun K0 V => ?_; simp only [zE, op1, ev, lkp, ai, ag, ch, am, bI, reduceCtorEq, E, D, J, S, M, O, Try.st25, Try.st58, Try.td25, Try.td29, Try.td58, Dfa.av, Mly.av]; (repeat refine And.intro (by first | omega | assumption | exact rfl) ?_); (first | refine V _ ?_ | refine Or.inl (V _ ?_)); clear V K0; simp only [put, app, aa, af, zE, zS, D])
 refine ah ?_
 refine hK1 _ ?_; clear hK1; refine ad [0, 1, 2, 3] ?_; simp only [U, lkp, zE, reduceCtorEq, E, Y, D]
 refine Z fun K2 hK2 => ?_
 refine Z fun K3 hK3 => ?_
 refine ae hP hN rfl ?_
 (refine ab rfl fun K0 V => ?_; simp only [zE, op1, ev, lkp, ai, ag, ay, Nat.mul_one, au, ax, acs, Ty.dflt, zG, ao, reduceCtorEq, E, D, J, S, M, O, Try.st25, Try.td25, Dfa.av, Mly.av]; (repeat refine And.intro (by first | omega | assumption | exact rfl) ?_); refine V _ ?_; clear V K0; simp only [put, app, aa, af, zE, zS, D])
 refine ab rfl fun K0 V => ?_
 refine aS (h := aG (ee d)) rfl rfl (by first | exact rfl | (simp only [ev, U, lkp, zE, reduceCtorEq, E, Y, D]; exact rfl)) (by simp only [zE, zG, op1, ev, lkp, ai, ag, am, acs, be, mv1, mvC, Ty.dflt, reduceCtorEq, E, D, J, S, M, O, Dfa.av, Mly.av]) ?_
 refine V _ ?_; clear V K0; simp only [put, app, aa, af, zE, zS, D]
 (refine ab rfl fun K0 V => ?_; simp only [zE, op1, ev, lkp, ai, ag, ev, reduceCtorEq, E, D, J, S, M, O, Try.td29, Dfa.av, Mly.av]; refine V _ ?_; clear V K0; simp only [put, app, aa, af, zE, zS, D])
 refine ah ?_
 refine hK3 _ ?_; clear hK3; refine ad [0, 1, 2, 3, 4] ?_; simp only [U, lkp, zE, reduceCtorEq, E, Y, D]
 refine Z fun K4 hK4 => ?_
 refine ae hP hN rfl ?_
 iterate 2 (refine ab rfl fun K0 V => ?_; simp only [zE, op1, ev, lkp, ai, ag, aC, aB, aD, ak, az, aO, reduceCtorEq, E, D, J, S, M, O, Try.td29, Try.td4, Dfa.av, Mly.av]; (repeat refine And.intro (by first | omega | assumption | exact rfl) ?_); refine V _ ?_; clear V K0; simp only [put, app, aa, af, zE, zS, D])
 refine ah ?_
 refine hK4 _ ?_; clear hK4; refine ad [0, 1, 2, 3, 4, 15] ?_; simp only [U, lkp, zE, reduceCtorEq, E, Y, D]
 refine aA (by simp only [ev, U, lkp, zE, reduceCtorEq, E, Y, D]; exact rfl) (fun hc5 => ?_) (fun hc5 => ?_)
 ·(try simp only [zB, reduceCtorEq] at hc5)
  refine Z fun K6 hK6 => ?_
  refine ae hP hN rfl ?_
  iterate 4 (refine ab rfl fun K0 V => ?_; simp only [zE, op1, ev, lkp, ai, ag, bM, aW, aN, am, aX, Nat.mul_one, aM, acs, Ty.size, Ty.dflt, zG, reduceCtorEq, E, D, J, S, M, O, Try.st58, Try.td29, Try.td58, Dfa.av, Mly.av]; (repeat refine And.intro (by first | omega | assumption | exact rfl) ?_); (first | refine V _ ?_ | refine Or.inl (V _ ?_)); clear V K0; simp only [put, app, aa, af, zE, zS, D])
  refine ah ?_
  refine hK6 _ ?_; clear hK6; refine ad [0, 1, 2, 3, 4, 15] ?_; simp only [U, lkp, zE, reduceCtorEq, E, Y, D]
  refine aJ ?_
  refine ⟨by first | exact .inl rfl | exact .inr rfl, _, rfl, ?_⟩; simp only [fzV, fz1, fzC, List.map_cons, List.map_nil, U, lkp, zE, reduceCtorEq, E, Y, D, Dfa.av, Mly.av]
  first
  | (have g9 := sb (by assumption); obtain ⟨g1, g2⟩ := g9; rw [g1, g2]; exact bC ⟨bB ⟨.refl _, .refl _, aQ rfl, aQ rfl, trivial⟩, bp (.refl _), trivial⟩)
  | (have g9 := rU hv (by omega); obtain ⟨g1, g2⟩ := g9; rw [g1, g2]; exact bC ⟨bB ⟨.refl _, .refl _, aQ rfl, aQ rfl, trivial⟩, bp (.refl _), trivial⟩)
  | (have g9 := oK hv (by omega); obtain ⟨g1, g2⟩ := g9; rw [g1, g2]; exact VLE.of_eq rfl)
 ·(try simp only [zB, reduceCtorEq] at hc5)
  have hv : bc d = 0 := by omega
  have hd := dx hv; have a1 := hd.i1; have a2 := hd.i2; have a3 := hd.n1; have a4 := hd.n2; have a5 := hd.s1; have a6 := hd.s2; have a7 := hd.al
  refine aI ?_
  refine hK2 _ ?_; clear hK2; refine ad [0, 1, 2, 3, 4, 15] ?_; simp only [U, lkp, zE, reduceCtorEq, E, Y, D]
  refine Z fun K7 hK7 => ?_
  refine Z fun K8 hK8 => ?_
  refine ae hP hN rfl ?_
  iterate 3 (refine ab rfl fun K0 V => ?_; simp only [zE, op1, ev, lkp, ai, ag, aw, ay, Nat.mul_one, au, ax, acs, Ty.dflt, zG, ao, aC, aB, aD, ak, az, aO, reduceCtorEq, E, D, J, S, M, O, Try.st25, Try.td25, Try.td3, Try.td4, Dfa.av, Mly.av]; (repeat refine And.intro (by first | omega | assumption | exact rfl) ?_); refine V _ ?_; clear V K0; simp only [put, app, aa, af, zE, zS, D])
  refine ah ?_
  refine hK8 _ ?_; clear hK8; refine ad [0, 1, 2, 3, 4, 15, 20] ?_; simp only [U, lkp, zE, reduceCtorEq, E, Y, D]
  refine aA (by simp only [ev, U, lkp, zE, reduceCtorEq, E, Y, D]; exact rfl) (fun hc9 => ?_) (fun hc9 => ?_)
  ·(try simp only [zB, reduceCtorEq] at hc9)
   refine Z fun K10 hK10 => ?_
   refine ae hP hN rfl ?_
   iterate 3 (refine ab rfl fun K0 V => ?_; simp only [zE, op1, ev, lkp, ai, ag, bM, aW, aN, am, aX, Nat.mul_one, aM, acs, Ty.size, Ty.dflt, zG, reduceCtorEq, E, D, J, S, M, O, Try.st58, Try.td29, Try.td58, Dfa.av, Mly.av]; (repeat refine And.intro (by first | omega | assumption | exact rfl) ?_); (first | refine V _ ?_ | refine Or.inl (V _ ?_)); clear V K0; simp only [put, app, aa, af, zE, zS, D])
   refine ah ?_
   refine hK10 _ ?_; clear hK10; refine ad [0, 1, 2, 3, 4, 15, 20] ?_; simp only [U, lkp, zE, reduceCtorEq, E, Y, D]
   refine aJ ?_
   refine ⟨by first | exact .inl rfl | exact .inr rfl, _, rfl, ?_⟩; simp only [fzV, fz1, fzC, List.map_cons, List.map_nil, U, lkp, zE, reduceCtorEq, E, Y, D, Dfa.av, Mly.av]
   first
   | (have g9 := sb (by assumption); obtain ⟨g1, g2⟩ := g9; rw [g1, g2]; exact bC ⟨bB ⟨.refl _, .refl _, aQ rfl, aQ rfl, trivial⟩, bp (.refl _), trivial⟩)
   | (have g9 := rU hv (by omega); obtain ⟨g1, g2⟩ := g9; rw [g1, g2]; exact bC ⟨bB ⟨.refl _, .refl _, aQ rfl, aQ rfl, trivial⟩, bp (.refl _), trivial⟩)
   | (have g9 := oK hv (by omega); obtain ⟨g1, g2⟩ := g9; rw [g1, g2]; exact VLE.of_eq rfl)
  ·(try simp only [zB, reduceCtorEq] at hc9)
   refine aI ?_
   refine hK7 _ ?_; clear hK7; refine ad [0, 1, 2, 3, 4, 15, 20] ?_; simp only [U, lkp, zE, reduceCtorEq, E, Y, D]
   refine Z fun K11 hK11 => ?_
   refine ae hP hN rfl ?_
   iterate 7 (refine ab rfl fun K0 V => ?_; simp only [zE, op1, ev, lkp, ai, ag, aw, ay, Nat.mul_one, au, ax, acs, Ty.dflt, zG, ao, bM, aW, aN, am, bI, aX, aM, Ty.size, reduceCtorEq, E, D, J, S, M, O, Try.st25, Try.st58, Try.td1, Try.td25, Try.td3, Try.td58, Dfa.av, Mly.av]; (repeat refine And.intro (by first | omega | assumption | exact rfl) ?_); (first | refine V _ ?_ | refine Or.inl (V _ ?_)); clear V K0; simp only [put, app, aa, af, zE, zS, D])
   refine ah ?_
   refine hK11 _ ?_; clear hK11; refine ad [0, 1, 2, 3, 4, 5, 15, 20] ?_; simp only [U, lkp, zE, reduceCtorEq, E, Y, D]
   refine Z fun K12 hK12 => ?_
   refine Z fun K13 hK13 => ?_
   refine ae hP hN rfl ?_
   iterate 4 (refine ab rfl fun K0 V => ?_; simp only [zE, op1, ev, lkp, ai, ag, aw, ay, Nat.mul_one, au, ax, acs, Ty.dflt, zG, ao, aK, br, bf, aY, b0, bn, Nat.div_one, aP, ba, Ty.size, aM, dite_true, reduceCtorEq, E, D, J, S, M, O, Try.el22, Try.st25, Try.td2, Try.td22, Try.td25, Try.td3, Dfa.av, Mly.av]; (repeat refine And.intro (by first | omega | assumption | exact rfl) ?_); (first | refine V _ ?_ | refine Or.inl (V _ ?_)); clear V K0; simp only [put, app, aa, af, zE, zS, D])
   refine ah ?_
   refine hK13 _ ?_; clear hK13; refine ad [0, 1, 2, 3, 4, 5, 15, 20, 28, 29, 30] ?_; simp only [U, lkp, zE, reduceCtorEq, E, Y, D]
   refine aH ?_
   refine cF 2 2 (.list (.int .i64)) 26 (by decide) rfl rfl ?_; simp only [zS, List.length_cons, List.length_nil, List.cons_append, List.nil_append, Nat.zero_add, D]
   refine cF 2 3 (.list (.int .i64)) 26 (by decide) rfl rfl ?_; simp only [zS, List.length_cons, List.length_nil, List.cons_append, List.nil_append, Nat.zero_add, D]
   refine bj (fun n14 s14 => ∃ (k : Nat) (v : Nat), (k ≤ d.nx.length) ∧ n14 = d.nx.length - k ∧ s14 = { env := [(1, .one (.ptr 0 0 0 0)), (2, .one (.ptr 1 0 0 0)), (3, .one (.int .i64 0)), (5, .one (.ptr 2 0 0 0)), (28, .one (.list (.list (.int .i64)) d.nx)), (29, .one (.int .i64 (d.nx.length : Int))), (30, .one (.int .i64 (k : Int)))], L := [.vars 25 [.int .i64 d.inp, .int .i64 d.st, .list (.list (.int .i64)) d.nx, .list .bool d.acc], .vars 58 [.int .i64 0, .int .i64 0, .nils, .nils], .vars 58 [.int .i64 d.inp, .int .i64 d.st, .row 3 v, .row 4 v], .row (.list (.int .i64)) 26 v (d.nx.take k), .row (.list (.int .i64)) 26 v (d.om.take k)] }) ?_ ?_
   ·exact ⟨_, _, aE [1, 2, 3, 5, 28, 29, 30], 0, 0, Nat.zero_le _, rfl, rfl⟩
   ·rintro n14 s14 ⟨k, v, hk, rfl, rfl⟩
    refine Z fun K15 hK15 => ?_
    refine ae hP hN rfl ?_
    (refine ab rfl fun K0 V => ?_; simp only [zE, op1, ev, lkp, ai, ag, aC, aB, aD, ak, az, aO, reduceCtorEq, E, D, J, S, M, O, Try.td3, Dfa.av, Mly.av]; (repeat refine And.intro (by first | omega | assumption | exact rfl) ?_); refine V _ ?_; clear V K0; simp only [put, app, aa, af, zE, zS, D])
    refine ah ?_
    refine hK15 _ ?_; clear hK15; refine ad [1, 2, 3, 5, 28, 29, 30, 31] ?_; simp only [U, lkp, zE, reduceCtorEq, E, Y, D]
    refine Z fun K16 hK16 => ?_
    refine aA (by simp only [ev, U, lkp, zE, reduceCtorEq, E, Y, D]; exact rfl) (fun hc17 => ?_) (fun hc17 => ?_)
    ·(try simp only [zB, reduceCtorEq] at hc17)
     refine aI ?_
     refine hK16 _ ?_; clear hK16; refine ad [1, 2, 3, 5, 28, 29, 30, 31] ?_; simp only [U, lkp, zE, reduceCtorEq, E, Y, D]
     refine Z fun K18 hK18 => ?_
     refine aH ?_
     refine Z fun K19 hK19 => ?_
     have hrl : ((d.nx.getD k []).length : Int) = d.inp := hd.rl k (by omega)
     refine ae hP hN rfl ?_
     iterate 3 (refine ab rfl fun K0 V => ?_; simp only [zE, op1, ev, lkp, ai, ag, aF, zG, Ty.dflt, Ty.size, Nat.mul_one, ne_eq, not_false_eq_true, Int.natCast_one, Int.mul_one, ay, au, ax, acs, ao, reduceCtorEq, E, D, J, S, M, O, Try.el22, Try.el26, Try.td22, Try.td26, Dfa.av, Mly.av]; (repeat refine And.intro (by first | omega | assumption | exact rfl) ?_); refine V _ ?_; clear V K0; simp only [put, app, aa, af, zE, zS, D])
     refine ah ?_
     refine hK19 _ ?_; clear hK19; refine ad [1, 2, 3, 5, 7, 28, 29, 30, 31] ?_; simp only [U, lkp, zE, reduceCtorEq, E, Y, D]
     refine Z fun K20 hK20 => ?_
     refine ae hP hN rfl ?_
     iterate 4 (refine ab rfl fun K0 V => ?_; simp only [zE, op1, ev, lkp, ai, ag, aK, br, bf, aY, b0, bn, Nat.div_one, aP, ba, Ty.size, aM, dite_true, cq, Ty.dflt, reduceCtorEq, E, D, J, S, M, O, Try.el26, Try.td26, Try.td3, Dfa.av, Mly.av]; (repeat refine And.intro (by first | omega | assumption | exact rfl) ?_); (first | refine V _ ?_ | refine Or.inl (V _ ?_)); clear V K0; simp only [put, app, aa, af, zE, zS, D])
     refine ah ?_
     refine hK20 _ ?_; clear hK20; refine ad [1, 2, 3, 5, 7, 8, 28, 29, 30, 31] ?_; simp only [U, lkp, zE, reduceCtorEq, E, Y, D]
     refine Z fun K21 hK21 => ?_
     refine Z fun K22 hK22 => ?_
     refine ae hP hN rfl ?_
     iterate 3 (refine ab rfl fun K0 V => ?_; simp only [zE, op1, ev, lkp, ai, ag, aK, br, bf, aY, b0, bn, Nat.div_one, aP, ba, Ty.size, aM, dite_true, reduceCtorEq, E, D, J, S, M, O, Try.el26, Try.td26, Try.td3, Dfa.av, Mly.av]; (repeat refine And.intro (by first | omega | assumption | exact rfl) ?_); (first | refine V _ ?_ | refine Or.inl (V _ ?_)); clear V K0; simp only [put, app, aa, af, zE, zS, D])
     refine ah ?_
     refine hK22 _ ?_; clear hK22; refine ad [1, 2, 3, 5, 7, 8, 28, 29, 30, 31, 37, 38, 39] ?_; simp only [U, lkp, zE, reduceCtorEq, E, Y, D]
     refine aH ?_
     refine bj (fun n23 s23 => ∃ (j : Nat) (w : Nat), (j ≤ (d.nx.getD k []).length) ∧ n23 = (d.nx.getD k []).length - j ∧ s23 = { env := [(1, .one (.ptr 0 0 0 0)), (2, .one (.ptr 1 0 0 0)), (3, .one (.int .i64 0)), (5, .one (.ptr 2 0 0 0)), (7, .one (.list (.int .i64) (d.nx.getD k []))), (8, .one (.row 5 w)), (28, .one (.list (.list (.int .i64)) d.nx)), (29, .one (.int .i64 (d.nx.length : Int))), (30, .one (.int .i64 (k : Int))), (37, .one (.list (.int .i64) (d.nx.getD k []))), (38, .one (.int .i64 ((d.nx.getD k []).length : Int))), (39, .one (.int .i64 (j : Int)))], L := [.vars 25 [.int .i64 d.inp, .int .i64 d.st, .list (.list (.int .i64)) d.nx, .list .bool d.acc], .vars 58 [.int .i64 0, .int .i64 0, .nils, .nils], .vars 58 [.int .i64 d.inp, .int .i64 d.st, .row 3 v, .row 4 v], .row (.list (.int .i64)) 26 v (d.nx.take k), .row (.list (.int .i64)) 26 v (d.om.take k), .row (.int .i64) 3 w (d.om1 ((d.nx.getD k []).take j))] }) ?_ ?_
     ·exact ⟨_, _, aE [1, 2, 3, 5, 7, 8, 28, 29, 30, 37, 38, 39], 0, 0, Nat.zero_le _, rfl, rfl⟩
     ·rintro n23 s23 ⟨j, w, hj, rfl, rfl⟩
      refine Z fun K24 hK24 => ?_
      refine ae hP hN rfl ?_
      (refine ab rfl fun K0 V => ?_; simp only [zE, op1, ev, lkp, ai, ag, aC, aB, aD, ak, az, aO, reduceCtorEq, E, D, J, S, M, O, Try.td3, Dfa.av, Mly.av]; (repeat refine And.intro (by first | omega | assumption | exact rfl) ?_); refine V _ ?_; clear V K0; simp only [put, app, aa, af, zE, zS, D])
      refine ah ?_
      refine hK24 _ ?_; clear hK24; refine ad [1, 2, 3, 5, 7, 8, 28, 29, 30, 37, 38, 39, 40] ?_; simp only [U, lkp, zE, reduceCtorEq, E, Y, D]
      refine Z fun K25 hK25 => ?_
      refine aA (by simp only [ev, U, lkp, zE, reduceCtorEq, E, Y, D]; exact rfl) (fun hc26 => ?_) (fun hc26 => ?_)
      ·(try simp only [zB, reduceCtorEq] at hc26)
       refine aI ?_
       refine hK25 _ ?_; clear hK25; refine ad [1, 2, 3, 5, 7, 8, 28, 29, 30, 37, 38, 39, 40] ?_; simp only [U, lkp, zE, reduceCtorEq, E, Y, D]
       refine Z fun K27 hK27 => ?_
       refine aH ?_
       refine Z fun K28 hK28 => ?_
       refine ae hP hN rfl ?_
       iterate 3 (refine ab rfl fun K0 V => ?_; simp only [zE, op1, ev, lkp, ai, ag, aF, zG, Ty.dflt, Ty.size, Nat.mul_one, ne_eq, not_false_eq_true, Int.natCast_one, Int.mul_one, ay, au, ax, acs, ao, reduceCtorEq, E, D, J, S, M, O, Try.el26, Try.td26, Try.td3, Dfa.av, Mly.av]; (repeat refine And.intro (by first | omega | assumption | exact rfl) ?_); refine V _ ?_; clear V K0; simp only [put, app, aa, af, zE, zS, D])
       refine ah ?_
       refine hK28 _ ?_; clear hK28; refine ad [1, 2, 3, 5, 7, 8, 10, 28, 29, 30, 37, 38, 39, 40] ?_; simp only [U, lkp, zE, reduceCtorEq, E, Y, D]
       refine Z fun K29 hK29 => ?_
       refine ae hP hN rfl ?_
       (refine ab rfl fun K0 V => ?_; simp only [zE, op1, ev, lkp, ai, ag, ev, reduceCtorEq, E, D, J, S, M, O, Try.td3, Dfa.av, Mly.av]; refine V _ ?_; clear V K0; simp only [put, app, aa, af, zE, zS, D])
       refine ah ?_
       refine hK29 _ ?_; clear hK29; refine ad [1, 2, 3, 5, 7, 8, 10, 11, 28, 29, 30, 37, 38, 39, 40] ?_; simp only [U, lkp, zE, reduceCtorEq, E, Y, D]
       refine Z fun K30 hK30 => ?_
       refine Z fun K31 hK31 => ?_
       have hcl : 0 ≤ (d.nx.getD k []).getD j 0 ∧ (d.nx.getD k []).getD j 0 < d.nx.length := hd.cl k j (by omega) (by omega)
       refine ae hP hN rfl ?_
       iterate 5 (refine ab rfl fun K0 V => ?_; simp only [zE, op1, ev, lkp, ai, ag, aw, ay, Nat.mul_one, au, ax, acs, Ty.dflt, zG, ao, aF, Ty.size, ne_eq, not_false_eq_true, Int.natCast_one, Int.mul_one, reduceCtorEq, E, D, J, S, M, O, Try.el23, Try.st25, Try.td23, Try.td25, Try.td3, Try.td4, Dfa.av, Mly.av]; (repeat refine And.intro (by first | omega | assumption | exact rfl) ?_); refine V _ ?_; clear V K0; simp only [put, app, aa, af, zE, zS, D])
       refine ah ?_
       refine hK31 _ ?_; clear hK31; refine ad [1, 2, 3, 5, 7, 8, 10, 11, 28, 29, 30, 37, 38, 39, 40, 47] ?_; simp only [U, lkp, zE, reduceCtorEq, E, Y, D]
       refine aA (by simp only [ev, U, lkp, zE, reduceCtorEq, E, Y, D]; exact rfl) (fun hc32 => ?_) (fun hc32 => ?_)
       ·(try simp only [zB, reduceCtorEq] at hc32)
        have hat : d.ac ((d.nx.getD k []).getD j 0) = true := hc32
        refine ae hP hN rfl ?_
        (refine ab rfl fun K0 V => ?_; simp only [zE, op1, ev, lkp, ai, ag, ev, reduceCtorEq, E, D, J, S, M, O, Try.td3, Dfa.av, Mly.av]; refine V _ ?_; clear V K0; simp only [put, app, aa, af, zE, zS, D])
        refine ah ?_
        refine hK30 _ ?_; clear hK30; refine ad [1, 2, 3, 5, 7, 8, 10, 11, 28, 29, 30, 37, 38, 39, 40, 47] ?_; simp only [U, lkp, zE, reduceCtorEq, E, Y, D]
        refine ae hP hN rfl ?_
        iterate 5 (refine ab rfl fun K0 V => ?_; simp only [zE, op1, ev, lkp, ai, ag, aZ, aW, bW, rep, aM, aN, am, Ty.size, aK, br, bf, aY, b0, bn, Nat.div_one, aP, ba, dite_true, reduceCtorEq, E, D, J, S, M, O, Try.el26, Try.td1, Try.td26, Try.td3, Dfa.av, Mly.av, mY, List.length_take]; (repeat refine And.intro (by first | omega | assumption | exact rfl) ?_); (first | refine V _ ?_ | refine Or.inl (V _ ?_)); clear V K0; simp only [put, app, aa, af, zE, zS, D])
        refine ah ?_
        refine hK27 _ ?_; clear hK27; refine ad [1, 2, 3, 5, 7, 8, 10, 11, 28, 29, 30, 37, 38, 39, 40, 47] ?_; simp only [U, lkp, zE, reduceCtorEq, E, Y, D]
        refine ae hP hN rfl ?_
        iterate 2 (refine ab rfl fun K0 V => ?_; simp only [zE, op1, ev, lkp, ai, ag, aC, aB, aD, ak, az, aO, reduceCtorEq, E, D, J, S, M, O, Try.td3, Dfa.av, Mly.av]; (repeat refine And.intro (by first | omega | assumption | exact rfl) ?_); refine V _ ?_; clear V K0; simp only [put, app, aa, af, zE, zS, D])
        refine ah ?_
        first
        | (refine ⟨_, _, ?_, aE [1, 2, 3, 5, 7, 8, 28, 29, 30, 37, 38, 39], j + 1, w + 1, by omega, rfl, ?_⟩
           · omega
           · rw [rq (by omega) hat]; rfl)
        | (refine ⟨_, _, ?_, aE [1, 2, 3, 5, 7, 8, 28, 29, 30, 37, 38, 39], j + 1, w + 1, by omega, rfl, ?_⟩
           · omega
           · rw [re (by omega) hat]; rfl)
       ·(try simp only [zB, reduceCtorEq] at hc32)
        have hat : d.ac ((d.nx.getD k []).getD j 0) = false := by simpa [Dfa.ac] using hc32
        refine aI ?_
        refine hK30 _ ?_; clear hK30; refine ad [1, 2, 3, 5, 7, 8, 10, 11, 28, 29, 30, 37, 38, 39, 40, 47] ?_; simp only [U, lkp, zE, reduceCtorEq, E, Y, D]
        refine ae hP hN rfl ?_
        iterate 5 (refine ab rfl fun K0 V => ?_; simp only [zE, op1, ev, lkp, ai, ag, aZ, aW, bW, rep, aM, aN, am, Ty.size, aK, br, bf, aY, b0, bn, Nat.div_one, aP, ba, dite_true, reduceCtorEq, E, D, J, S, M, O, Try.el26, Try.td1, Try.td26, Try.td3, Dfa.av, Mly.av, mY, List.length_take]; (repeat refine And.intro (by first | omega | assumption | exact rfl) ?_); (first | refine V _ ?_ | refine Or.inl (V _ ?_)); clear V K0; simp only [put, app, aa, af, zE, zS, D])
        refine ah ?_
        refine hK27 _ ?_; clear hK27; refine ad [1, 2, 3, 5, 7, 8, 10, 11, 28, 29, 30, 37, 38, 39, 40, 47] ?_; simp only [U, lkp, zE, reduceCtorEq, E, Y, D]
        refine ae hP hN rfl ?_
        iterate 2 (refine ab rfl fun K0 V => ?_; simp only [zE, op1, ev, lkp, ai, ag, aC, aB, aD, ak, az, aO, reduceCtorEq, E, D, J, S, M, O, Try.td3, Dfa.av, Mly.av]; (repeat refine And.intro (by first | omega | assumption | exact rfl) ?_); refine V _ ?_; clear V K0; simp only [put, app, aa, af, zE, zS, D])
        refine ah ?_
        first
        | (refine ⟨_, _, ?_, aE [1, 2, 3, 5, 7, 8, 28, 29, 30, 37, 38, 39], j + 1, w + 1, by omega, rfl, ?_⟩
           · omega
           · rw [rq (by omega) hat]; rfl)
        | (refine ⟨_, _, ?_, aE [1, 2, 3, 5, 7, 8, 28, 29, 30, 37, 38, 39], j + 1, w + 1, by omega, rfl, ?_⟩
           · omega
           · rw [re (by omega) hat]; rfl)
      ·(try simp only [zB, reduceCtorEq] at hc26)
       refine bg ?_
       refine hK21 _ ?_; clear hK21; refine ad [1, 2, 3, 5, 7, 8, 28, 29, 30, 37, 38, 39, 40] ?_; simp only [U, lkp, zE, reduceCtorEq, E, Y, D]
       refine Z fun K33 hK33 => ?_
       refine cD 5 rfl ?_; simp only [List.map_cons, List.map_nil, zS, E, and_self, and_true, true_and, and_false, false_and, if_true, if_false, eq_self, reduceCtorEq, Nat.one_ne_zero, Nat.zero_ne_one]
       have hjr : (d.nx.getD k []).take j = (d.nx.getD k []) := List.take_of_length_le (by omega)
       rw [hjr]
       refine bY hP hN Try.mixed rfl ?_
       iterate 3 (refine ab rfl fun K0 V => ?_; simp only [zE, op1, ev, lkp, ai, ag, aw, ay, Nat.mul_one, au, ax, acs, Ty.dflt, zG, ao, reduceCtorEq, E, D, J, S, M, O, Try.el22, Try.el26, Try.st58, Try.td2, Try.td22, Try.td26, Try.td58, Dfa.av, Mly.av, List.length_take]; (repeat refine And.intro (by first | omega | assumption | exact rfl) ?_); refine V _ ?_; clear V K0; simp only [put, app, aa, af, zE, zS, D])
       refine ab rfl fun K0 V => ?_
       refine aS (h := aG (np (d.nx.getD k []) (by omega))) rfl rfl (by first | exact rfl | (simp only [ev, U, lkp, zE, reduceCtorEq, E, Y, D]; exact rfl)) (by simp only [zE, zG, op1, ev, lkp, ai, ag, am, acs, be, mv1, mvC, Ty.dflt, reduceCtorEq, E, D, J, S, M, O, Dfa.av, Mly.av, List.length_take]) ?_
       refine V _ ?_; clear V K0; simp only [put, app, aa, af, zE, zS, D]
       iterate 4 (refine ab rfl fun K0 V => ?_; simp only [zE, op1, ev, lkp, ai, ag, aZ, aW, bW, rep, aM, aN, am, Ty.size, aK, br, bf, aY, b0, bn, Nat.div_one, aP, ba, dite_true, aw, aX, Nat.mul_one, acs, Ty.dflt, zG, reduceCtorEq, E, D, J, S, M, O, Try.el22, Try.st58, Try.td1, Try.td2, Try.td22, Try.td58, Dfa.av, Mly.av, List.length_take]; (repeat refine And.intro (by first | omega | assumption | exact rfl) ?_); (first | refine V _ ?_ | refine Or.inl (V _ ?_)); clear V K0; simp only [put, app, aa, af, zE, zS, D])
       refine ah ?_
       refine ⟨by kernel_rfl, ?_⟩
       refine hK33 _ ?_; clear hK33; refine ad [1, 2, 3, 5, 7, 8, 28, 29, 30, 37, 38, 39, 40] ?_; simp only [U, lkp, zE, reduceCtorEq, E, Y, D]
       refine ae hP hN rfl ?_
       iterate 7 (refine ab rfl fun K0 V => ?_; simp only [zE, op1, ev, lkp, ai, ag, aw, ay, Nat.mul_one, au, ax, acs, Ty.dflt, zG, ao, aZ, aW, bW, rep, aM, aN, am, Ty.size, aK, br, bf, aY, b0, bn, Nat.div_one, aP, ba, dite_true, aX, reduceCtorEq, E, D, J, S, M, O, Try.el22, Try.el26, Try.st58, Try.td1, Try.td22, Try.td26, Try.td3, Try.td58, Dfa.av, Mly.av, List.length_take, pb]; (repeat refine And.intro (by first | omega | assumption | exact rfl) ?_); (first | refine V _ ?_ | refine Or.inl (V _ ?_)); clear V K0; simp only [put, app, aa, af, zE, zS, D])
       refine ah ?_
       refine hK18 _ ?_; clear hK18; refine ad [1, 2, 3, 5, 7, 8, 28, 29, 30, 37, 38, 39, 40] ?_; simp only [U, lkp, zE, reduceCtorEq, E, Y, D]
       refine cK (n := 5) (L1 := [_, _, _, _, _]) rfl rfl (by rw [hB]; decide) rfl rfl ?_
       refine ae hP hN rfl ?_
       iterate 2 (refine ab rfl fun K0 V => ?_; simp only [zE, op1, ev, lkp, ai, ag, aC, aB, aD, ak, az, aO, reduceCtorEq, E, D, J, S, M, O, Try.td3, Dfa.av, Mly.av]; (repeat refine And.intro (by first | omega | assumption | exact rfl) ?_); refine V _ ?_; clear V K0; simp only [put, app, aa, af, zE, zS, D])
       refine ah ?_
       refine ⟨_, _, ?_, aE [1, 2, 3, 5, 28, 29, 30], k + 1, v + 1, by omega, rfl, ?_⟩
       · omega
       · rw [jw [] (by omega), sd (by omega)]; rfl
    ·(try simp only [zB, reduceCtorEq] at hc17)
     refine bg ?_
     refine hK12 _ ?_; clear hK12; refine ad [1, 2, 3, 5, 28, 29, 30, 31] ?_; simp only [U, lkp, zE, reduceCtorEq, E, Y, D]
     refine Z fun K34 hK34 => ?_
     refine cm 3 2 rfl rfl ?_; simp only [List.map_cons, List.map_nil, frC, zS, E, and_self, and_true, true_and, and_false, false_and, if_true, if_false, eq_self, reduceCtorEq, Nat.one_ne_zero, Nat.zero_ne_one]
     refine cm 4 2 rfl rfl ?_; simp only [List.map_cons, List.map_nil, frC, zS, E, and_self, and_true, true_and, and_false, false_and, if_true, if_false, eq_self, reduceCtorEq, Nat.one_ne_zero, Nat.zero_ne_one]
     obtain rfl : k = d.nx.length := by omega
     rw [List.take_length, tk]
     refine ae hP hN rfl ?_
     iterate 3 (refine ab rfl fun K0 V => ?_; simp only [zE, op1, ev, lkp, ai, ag, ay, Nat.mul_one, au, ax, acs, Ty.dflt, zG, ao, aX, am, aN, aM, Ty.size, reduceCtorEq, E, D, J, S, M, O, Try.st58, Try.td29, Try.td58, Dfa.av, Mly.av]; (repeat refine And.intro (by first | omega | assumption | exact rfl) ?_); refine V _ ?_; clear V K0; simp only [put, app, aa, af, zE, zS, D])
     refine ah ?_
     refine hK34 _ ?_; clear hK34; refine ad [1, 2, 3, 5, 28, 29, 30, 31] ?_; simp only [U, lkp, zE, reduceCtorEq, E, Y, D]
     refine aJ ?_
     refine ⟨by first | exact .inl rfl | exact .inr rfl, _, rfl, ?_⟩; simp only [fzV, fz1, fzC, List.map_cons, List.map_nil, U, lkp, zE, reduceCtorEq, E, Y, D, Dfa.av, Mly.av]
     first
     | (have g9 := sb (by assumption); obtain ⟨g1, g2⟩ := g9; rw [g1, g2]; exact bC ⟨bB ⟨.refl _, .refl _, aQ rfl, aQ rfl, trivial⟩, bp (.refl _), trivial⟩)
     | (have g9 := rU hv (by omega); obtain ⟨g1, g2⟩ := g9; rw [g1, g2]; exact bC ⟨bB ⟨.refl _, .refl _, aQ rfl, aQ rfl, trivial⟩, bp (.refl _), trivial⟩)
     | (have g9 := oK hv (by omega); obtain ⟨g1, g2⟩ := g9; rw [g1, g2]; exact VLE.of_eq rfl)
end Go.Proofs.Ytdkgcbhbpdbmnaa
namespace Go.Proofs.Ytdkgcbhbpdbmnaa
open Go Go.AV
open Nat renaming reduceEqDiff → E, reduceAdd → D, reduceLeDiff → J, reduceLT → S, reduceMul → M, reduceSub → O
open List renaming set_cons_zero → ar, set_cons_succ → aq
set_option maxRecDepth 100000 in
set_option maxHeartbeats 2000000 in
theorem kW  : bH Try.prog 11 [] (.one (.bool true)) := by
 refine aR Try.func11 rfl (by kernel_rfl) (Nat.le_of_ble_eq_true rfl) rfl fun C hP hN hB => ?_
 replace hN : C.N = 170 := hN
 simp only [Y, D]
 refine Z fun K1 hK1 => ?_
 refine ae hP hN rfl ?_
 (refine ab rfl fun K0 V => ?_; simp only [zE, op1, ev, lkp, ai, ag, ev, reduceCtorEq, E, D, J, S, M, O, Try.td4, Dfa.av, Mly.av]; refine V _ ?_; clear V K0; simp only [put, app, aa, af, zE, zS, D])
 refine ah ?_
 refine hK1 _ ?_; clear hK1; refine ad [0] ?_; simp only [U, lkp, zE, reduceCtorEq, E, Y, D]
 refine Z fun K2 hK2 => ?_
 refine ae hP hN rfl ?_
 refine ab rfl fun K0 V => ?_
 refine aS (h := aG qw) rfl rfl (by first | exact rfl | (simp only [ev, U, lkp, zE, reduceCtorEq, E, Y, D]; exact rfl)) (by simp only [zE, zG, op1, ev, lkp, ai, ag, am, acs, be, mv1, mvC, Ty.dflt, reduceCtorEq, E, D, J, S, M, O, Dfa.av, Mly.av]) ?_
 refine V _ ?_; clear V K0; simp only [put, app, aa, af, zE, zS, D]
 iterate 2 (refine ab rfl fun K0 V => ?_; simp only [zE, op1, ev, lkp, ai, ag, bI, aX, Nat.mul_one, am, aN, aM, acs, Ty.size, Ty.dflt, zG, reduceCtorEq, E, D, J, S, M, O, Try.st25, Try.td25, Dfa.av, Mly.av]; (repeat refine And.intro (by first | omega | assumption | exact rfl) ?_); (first | refine V _ ?_ | refine Or.inl (V _ ?_)); clear V K0; simp only [put, app, aa, af, zE, zS, D])
 refine ah ?_
 refine hK2 _ ?_; clear hK2; refine ad [0, 1] ?_; simp only [U, lkp, zE, reduceCtorEq, E, Y, D]
 refine Z fun K3 hK3 => ?_
 refine ae hP hN rfl ?_
 (refine ab rfl fun K0 V => ?_; simp only [zE, op1, ev, lkp, ai, ag, ay, Nat.mul_one, au, ax, acs, Ty.dflt, zG, ao, reduceCtorEq, E, D, J, S, M, O, Try.st25, Try.td25, Dfa.av, Mly.av]; (repeat refine And.intro (by first | omega | assumption | exact rfl) ?_); refine V _ ?_; clear V K0; simp only [put, app, aa, af, zE, zS, D])
 refine ab rfl fun K0 V => ?_
 refine aS (h := aG (rm dEv)) rfl rfl (by first | exact rfl | (simp only [ev, U, lkp, zE, reduceCtorEq, E, Y, D]; exact rfl)) (by simp only [zE, zG, op1, ev, lkp, ai, ag, am, acs, be, mv1, mvC, Ty.dflt, reduceCtorEq, E, D, J, S, M, O, Dfa.av, Mly.av]) ?_
 refine V _ ?_; clear V K0; simp only [put, app, aa, af, zE, zS, D]
 iterate 6 (refine ab rfl fun K0 V => ?_; simp only [zE, op1, ev, lkp, ai, ag, bJ, bI, aX, Nat.mul_one, am, aN, aM, acs, Ty.size, Ty.dflt, zG, reduceCtorEq, E, D, J, S, M, O, Try.st25, Try.td1, Try.td25, Try.td29, Dfa.av, Mly.av]; (repeat refine And.intro (by first | omega | assumption | exact rfl) ?_); (first | refine V _ ?_ | refine Or.inl (V _ ?_)); clear V K0; simp only [put, app, aa, af, zE, zS, D])
 refine ah ?_
 refine hK3 _ ?_; clear hK3; refine ad [0, 1, 2, 3] ?_; simp only [U, lkp, zE, reduceCtorEq, E, Y, D]
 refine Z fun K4 hK4 => ?_
 refine ae hP hN rfl ?_
 iterate 2 (refine ab rfl fun K0 V => ?_; simp only [zE, op1, ev, lkp, ai, ag, ay, Nat.mul_one, au, ax, acs, Ty.dflt, zG, ao, aZ, aW, bW, rep, aM, aN, am, Ty.size, reduceCtorEq, E, D, J, S, M, O, Try.el26, Try.st25, Try.td25, Try.td26, Try.td3, Dfa.av, Mly.av]; (repeat refine And.intro (by first | omega | assumption | exact rfl) ?_); (first | refine V _ ?_ | refine Or.inl (V _ ?_)); clear V K0; simp only [put, app, aa, af, zE, zS, D])
 refine ab rfl fun K0 V => ?_
 refine aS (h := aG (nz dEv [1, 0, 1])) rfl rfl (by first | exact rfl | (simp only [ev, U, lkp, zE, reduceCtorEq, E, Y, D]; exact rfl)) (by simp only [zE, zG, op1, ev, lkp, ai, ag, am, acs, be, mv1, mvC, Ty.dflt, reduceCtorEq, E, D, J, S, M, O, Dfa.av, Mly.av]) ?_
 refine V _ ?_; clear V K0; simp only [put, app, aa, af, zE, zS, D]
 iterate 5 (refine ab rfl fun K0 V => ?_; simp only [zE, op1, ev, lkp, ai, ag, bJ, reduceCtorEq, E, D, J, S, M, O, Try.td1, Try.td29, Try.td4, Dfa.av, Mly.av]; refine V _ ?_; clear V K0; simp only [put, app, aa, af, zE, zS, D])
 refine ah ?_
 refine hK4 _ ?_; clear hK4; refine ad [0, 1, 2, 3, 4, 5] ?_; simp only [U, lkp, zE, reduceCtorEq, E, Y, D]
 refine Z fun K5 hK5 => ?_
 refine ae hP hN rfl ?_
 (refine ab rfl fun K0 V => ?_; simp only [zE, op1, ev, lkp, ai, ag, ay, Nat.mul_one, au, ax, acs, Ty.dflt, zG, ao, reduceCtorEq, E, D, J, S, M, O, Try.st25, Try.td25, Dfa.av, Mly.av]; (repeat refine And.intro (by first | omega | assumption | exact rfl) ?_); refine V _ ?_; clear V K0; simp only [put, app, aa, af, zE, zS, D])
 refine ab rfl fun K0 V => ?_
 refine aS (h := aG (pP (coD dEv))) rfl rfl (by first | exact rfl | (simp only [ev, U, lkp, zE, reduceCtorEq, E, Y, D]; exact rfl)) (by simp only [zE, zG, op1, ev, lkp, ai, ag, am, acs, be, mv1, mvC, Ty.dflt, reduceCtorEq, E, D, J, S, M, O, Dfa.av, Mly.av]) ?_
 refine V _ ?_; clear V K0; simp only [put, app, aa, af, zE, zS, D]
 iterate 7 (refine ab rfl fun K0 V => ?_; simp only [zE, op1, ev, lkp, ai, ag, bJ, reduceCtorEq, E, D, J, S, M, O, Try.el26, Try.td1, Try.td2, Try.td26, Try.td29, Try.td4, Dfa.av, Mly.av]; refine V _ ?_; clear V K0; simp only [put, app, aa, af, zE, zS, D])
 refine ah ?_
 refine hK5 _ ?_; clear hK5; refine ad [0, 1, 2, 3, 4, 5, 6, 7, 8] ?_; simp only [U, lkp, zE, reduceCtorEq, E, Y, D]
 refine Z fun K6 hK6 => ?_
 refine ae hP hN rfl ?_
 (refine ab rfl fun K0 V => ?_; simp only [zE, op1, ev, lkp, ai, ag, ay, Nat.mul_one, au, ax, acs, Ty.dflt, zG, ao, reduceCtorEq, E, D, J, S, M, O, Try.st25, Try.td25, Dfa.av, Mly.av]; (repeat refine And.intro (by first | omega | assumption | exact rfl) ?_); refine V _ ?_; clear V K0; simp only [put, app, aa, af, zE, zS, D])
 refine ab rfl fun K0 V => ?_
 refine aS (h := aG (lS dEv 3)) rfl rfl (by first | exact rfl | (simp only [ev, U, lkp, zE, reduceCtorEq, E, Y, D]; exact rfl)) (by simp only [zE, zG, op1, ev, lkp, ai, ag, am, acs, be, mv1, mvC, Ty.dflt, reduceCtorEq, E, D, J, S, M, O, Dfa.av, Mly.av]) ?_
 refine V _ ?_; clear V K0; simp only [put, app, aa, af, zE, zS, D]
 iterate 5 (refine ab rfl fun K0 V => ?_; simp only [zE, op1, ev, lkp, ai, ag, bJ, reduceCtorEq, E, D, J, S, M, O, Try.td1, Try.td29, Try.td3, Dfa.av, Mly.av]; refine V _ ?_; clear V K0; simp only [put, app, aa, af, zE, zS, D])
 refine ah ?_
 refine hK6 _ ?_; clear hK6; refine ad [0, 1, 2, 3, 4, 5, 6, 7, 8, 9, 10] ?_; simp only [U, lkp, zE, reduceCtorEq, E, Y, D]
 refine Z fun K7 hK7 => ?_
 refine ae hP hN rfl ?_
 iterate 2 (refine ab rfl fun K0 V => ?_; simp only [zE, op1, ev, lkp, ai, ag, ay, Nat.mul_one, au, ax, acs, Ty.dflt, zG, ao, reduceCtorEq, E, D, J, S, M, O, Try.st25, Try.td25, Dfa.av, Mly.av]; (repeat refine And.intro (by first | omega | assumption | exact rfl) ?_); refine V _ ?_; clear V K0; simp only [put, app, aa, af, zE, zS, D])
 refine ab rfl fun K0 V => ?_
 refine aS (h := aG (nn 3 dEv (coD dEv))) rfl rfl (by first | exact rfl | (simp only [ev, U, lkp, zE, reduceCtorEq, E, Y, D]; exact rfl)) (by simp only [zE, zG, op1, ev, lkp, ai, ag, am, acs, be, mv1, mvC, Ty.dflt, reduceCtorEq, E, D, J, S, M, O, Dfa.av, Mly.av]) ?_
 refine V _ ?_; clear V K0; simp only [put, app, aa, af, zE, zS, D]
 iterate 6 (refine ab rfl fun K0 V => ?_; simp only [zE, op1, ev, lkp, ai, ag, bJ, bI, aX, Nat.mul_one, am, aN, aM, acs, Ty.size, Ty.dflt, zG, reduceCtorEq, E, D, J, S, M, O, Try.st25, Try.td1, Try.td25, Try.td29, Dfa.av, Mly.av]; (repeat refine And.intro (by first | omega | assumption | exact rfl) ?_); (first | refine V _ ?_ | refine Or.inl (V _ ?_)); clear V K0; simp only [put, app, aa, af, zE, zS, D])
 refine ah ?_
 refine hK7 _ ?_; clear hK7; refine ad [0, 1, 2, 3, 4, 5, 6, 7, 8, 9, 10, 11, 12] ?_; simp only [U, lkp, zE, reduceCtorEq, E, Y, D]
 refine Z fun K8 hK8 => ?_
 refine ae hP hN rfl ?_
 (refine ab rfl fun K0 V => ?_; simp only [zE, op1, ev, lkp, ai, ag, ay, Nat.mul_one, au, ax, acs, Ty.dflt, zG, ao, reduceCtorEq, E, D, J, S, M, O, Try.st25, Try.td25, Dfa.av, Mly.av]; (repeat refine And.intro (by first | omega | assumption | exact rfl) ?_); refine V _ ?_; clear V K0; simp only [put, app, aa, af, zE, zS, D])
 refine ab rfl fun K0 V => ?_
 refine aS (h := aG (pa (cr 3 dEv (coD dEv)))) rfl rfl (by first | exact rfl | (simp only [ev, U, lkp, zE, reduceCtorEq, E, Y, D]; exact rfl)) (by simp only [zE, zG, op1, ev, lkp, ai, ag, am, acs, be, mv1, mvC, Ty.dflt, reduceCtorEq, E, D, J, S, M, O, Dfa.av, Mly.av]) ?_
 refine V _ ?_; clear V K0; simp only [put, app, aa, af, zE, zS, D]
 iterate 6 (refine ab rfl fun K0 V => ?_; simp only [zE, op1, ev, lkp, ai, ag, bJ, bI, aX, Nat.mul_one, am, aN, aM, acs, Ty.size, Ty.dflt, zG, reduceCtorEq, E, D, J, S, M, O, Try.st25, Try.td1, Try.td25, Try.td29, Dfa.av, Mly.av]; (repeat refine And.intro (by first | omega | assumption | exact rfl) ?_); (first | refine V _ ?_ | refine Or.inl (V _ ?_)); clear V K0; simp only [put, app, aa, af, zE, zS, D])
 refine ah ?_
 refine hK8 _ ?_; clear hK8; refine ad [0, 1, 2, 3, 4, 5, 6, 7, 8, 9, 10, 11, 12, 13, 14] ?_; simp only [U, lkp, zE, reduceCtorEq, E, Y, D]
 refine Z fun K9 hK9 => ?_
 refine ae hP hN rfl ?_
 iterate 2 (refine ab rfl fun K0 V => ?_; simp only [zE, op1, ev, lkp, ai, ag, ay, Nat.mul_one, au, ax, acs, Ty.dflt, zG, ao, reduceCtorEq, E, D, J, S, M, O, Try.st25, Try.td25, Dfa.av, Mly.av]; (repeat refine And.intro (by first | omega | assumption | exact rfl) ?_); refine V _ ?_; clear V K0; simp only [put, app, aa, af, zE, zS, D])
 refine ab rfl fun K0 V => ?_
 refine aS (h := aG (nY dEv (coD dEv))) rfl rfl (by first | exact rfl | (simp only [ev, U, lkp, zE, reduceCtorEq, E, Y, D]; exact rfl)) (by simp only [zE, zG, op1, ev, lkp, ai, ag, am, acs, be, mv1, mvC, Ty.dflt, reduceCtorEq, E, D, J, S, M, O, Dfa.av, Mly.av]) ?_
 refine V _ ?_; clear V K0; simp only [put, app, aa, af, zE, zS, D]
 iterate 7 (refine ab rfl fun K0 V => ?_; simp only [zE, op1, ev, lkp, ai, ag, bJ, reduceCtorEq, E, D, J, S, M, O, Try.el26, Try.td1, Try.td2, Try.td26, Try.td29, Try.td4, Dfa.av, Mly.av]; refine V _ ?_; clear V K0; simp only [put, app, aa, af, zE, zS, D])
 refine ah ?_
 refine hK9 _ ?_; clear hK9; refine ad [0, 1, 2, 3, 4, 5, 6, 7, 8, 9, 10, 11, 12, 13, 14, 16, 17] ?_; simp only [U, lkp, zE, reduceCtorEq, E, Y, D]
 refine Z fun K10 hK10 => ?_
 refine ae hP hN rfl ?_
 iterate 2 (refine ab rfl fun K0 V => ?_; simp only [zE, op1, ev, lkp, ai, ag, ay, Nat.mul_one, au, ax, acs, Ty.dflt, zG, ao, reduceCtorEq, E, D, J, S, M, O, Try.st25, Try.td25, Dfa.av, Mly.av]; (repeat refine And.intro (by first | omega | assumption | exact rfl) ?_); refine V _ ?_; clear V K0; simp only [put, app, aa, af, zE, zS, D])
 refine ab rfl fun K0 V => ?_
 refine aS (h := aG (nY dEv dEv)) rfl rfl (by first | exact rfl | (simp only [ev, U, lkp, zE, reduceCtorEq, E, Y, D]; exact rfl)) (by simp only [zE, zG, op1, ev, lkp, ai, ag, am, acs, be, mv1, mvC, Ty.dflt, reduceCtorEq, E, D, J, S, M, O, Dfa.av, Mly.av]) ?_
 refine V _ ?_; clear V K0; simp only [put, app, aa, af, zE, zS, D]
 iterate 7 (refine ab rfl fun K0 V => ?_; simp only [zE, op1, ev, lkp, ai, ag, bJ, reduceCtorEq, E, D, J, S, M, O, Try.el26, Try.td1, Try.td2, Try.td26, Try.td29, Try.td4, Dfa.av, Mly.av]; refine V _ ?_; clear V K0; simp only [put, app, aa, af, zE, zS, D])
 refine ah ?_
 refine hK10 _ ?_; clear hK10; refine ad [0, 1, 2, 3, 4, 5, 6, 7, 8, 9, 10, 11, 12, 13, 14, 16, 17, 19, 20] ?_; simp only [U, lkp, zE, reduceCtorEq, E, Y, D]
 refine Z fun K11 hK11 => ?_
 refine ae hP hN rfl ?_
 (refine ab rfl fun K0 V => ?_; simp only [zE, op1, ev, lkp, ai, ag, ay, Nat.mul_one, au, ax, acs, Ty.dflt, zG, ao, reduceCtorEq, E, D, J, S, M, O, Try.st25, Try.td25, Dfa.av, Mly.av]; (repeat refine And.intro (by first | omega | assumption | exact rfl) ?_); refine V _ ?_; clear V K0; simp only [put, app, aa, af, zE, zS, D])
 refine ab rfl fun K0 V => ?_
 refine aS (h := aG (sQ dEv)) rfl rfl (by first | exact rfl | (simp only [ev, U, lkp, zE, reduceCtorEq, E, Y, D]; exact rfl)) (by simp only [zE, zG, op1, ev, lkp, ai, ag, am, acs, be, mv1, mvC, Ty.dflt, reduceCtorEq, E, D, J, S, M, O, Dfa.av, Mly.av]) ?_
 refine V _ ?_; clear V K0; simp only [put, app, aa, af, zE, zS, D]
 iterate 6 (refine ab rfl fun K0 V => ?_; simp only [zE, op1, ev, lkp, ai, ag, bJ, bI, aX, Nat.mul_one, am, aN, aM, acs, Ty.size, Ty.dflt, zG, reduceCtorEq, E, D, J, S, M, O, Try.st58, Try.td1, Try.td29, Try.td58, Dfa.av, Mly.av]; (repeat refine And.intro (by first | omega | assumption | exact rfl) ?_); (first | refine V _ ?_ | refine Or.inl (V _ ?_)); clear V K0; simp only [put, app, aa, af, zE, zS, D])
 refine ah ?_
 refine hK11 _ ?_; clear hK11; refine ad [0, 1, 2, 3, 4, 5, 6, 7, 8, 9, 10, 11, 12, 13, 14, 16, 17, 19, 20, 21, 22] ?_; simp only [U, lkp, zE, reduceCtorEq, E, Y, D]
 refine Z fun K12 hK12 => ?_
 refine ae hP hN rfl ?_
 (refine ab rfl fun K0 V => ?_; simp only [zE, op1, ev, lkp, ai, ag, ay, Nat.mul_one, au, ax, acs, Ty.dflt, zG, ao, reduceCtorEq, E, D, J, S, M, O, Try.st58, Try.td58, Dfa.av, Mly.av]; (repeat refine And.intro (by first | omega | assumption | exact rfl) ?_); refine V _ ?_; clear V K0; simp only [put, app, aa, af, zE, zS, D])
 refine ab rfl fun K0 V => ?_
 refine aS (h := aG (qW (toM dEv) true)) rfl rfl (by first | exact rfl | (simp only [ev, U, lkp, zE, reduceCtorEq, E, Y, D]; exact rfl)) (by simp only [zE, zG, op1, ev, lkp, ai, ag, am, acs, be, mv1, mvC, Ty.dflt, reduceCtorEq, E, D, J, S, M, O, Dfa.av, Mly.av]) ?_
 refine V _ ?_; clear V K0; simp only [put, app, aa, af, zE, zS, D]
 iterate 6 (refine ab rfl fun K0 V => ?_; simp only [zE, op1, ev, lkp, ai, ag, bJ, bI, aX, Nat.mul_one, am, aN, aM, acs, Ty.size, Ty.dflt, zG, reduceCtorEq, E, D, J, S, M, O, Try.st25, Try.td1, Try.td25, Try.td29, Dfa.av, Mly.av]; (repeat refine And.intro (by first | omega | assumption | exact rfl) ?_); (first | refine V _ ?_ | refine Or.inl (V _ ?_)); clear V K0; simp only [put, app, aa, af, zE, zS, D])
 refine ah ?_
 refine hK12 _ ?_; clear hK12; refine ad [0, 1, 2, 3, 4, 5, 6, 7, 8, 9, 10, 11, 12, 13, 14, 16, 17, 19, 20, 21, 22, 23, 24] ?_; simp only [U, lkp, zE, reduceCtorEq, E, Y, D]
 refine Z fun K13 hK13 => ?_
 refine ae hP hN rfl ?_
 iterate 2 (refine ab rfl fun K0 V => ?_; simp only [zE, op1, ev, lkp, ai, ag, aC, aB, aD, ak, az, aO, reduceCtorEq, E, D, J, S, M, O, Try.td29, Try.td4, Dfa.av, Mly.av]; (repeat refine And.intro (by first | omega | assumption | exact rfl) ?_); refine V _ ?_; clear V K0; simp only [put, app, aa, af, zE, zS, D])
 (refine ab rfl fun K0 V => ?_; simp only [zE, op1, ev, lkp, ai, ag, ev, reduceCtorEq, E, D, J, S, M, O, Try.td4, Dfa.av, Mly.av]; refine V _ ?_; clear V K0; simp only [put, app, aa, af, zE, zS, D])
 refine' aU (want := true) 1 rfl (m := 85) (by simp only [U, lkp, zE, reduceCtorEq, E, Y, D]; exact rfl) (by kernel_rfl) rfl rfl rfl rfl rfl (fun hg14 => ?a14) ?b14 ?c14
 case a14 =>
  have hq14 := hg14; (try simp only [zB, reduceCtorEq] at hg14); simp only [List.take_succ_cons, List.take_zero, List.cons_append, List.nil_append]
  (refine aL rfl fun K0 V => ?_; simp only [zE, op1, ev, lkp, ai, ag, ev, reduceCtorEq, E, D, J, S, M, O, Try.td4, Dfa.av, Mly.av]; refine V _ ?_; clear V K0; simp only [put, app, aa, af, zE, zS, D])
  (refine ab rfl fun K0 V => ?_; simp only [zE, op1, ev, lkp, ai, ag, bq, reduceCtorEq, E, D, J, S, M, O, Try.td4, Dfa.av, Mly.av]; refine V _ ?_; clear V K0; simp only [put, app, aa, af, zE, zS, D])
  refine ah ?_
  refine ⟨by simp only [U, lkp, zE, reduceCtorEq, E, Y, D]; exact rfl, rfl, ?_, rfl⟩; (repeat refine aV rfl ?_); exact bu (by exact rfl) hq14
 case b14 => exact bt (by first | rfl | (simp [c0]; done) | decide)
 simp only [bm, bb]
 (refine ab rfl fun K0 V => ?_; simp only [zE, op1, ev, lkp, ai, ag, ev, reduceCtorEq, E, D, J, S, M, O, Try.td4, Dfa.av, Mly.av]; refine V _ ?_; clear V K0; simp only [put, app, aa, af, zE, zS, D])
 refine' aU (want := true) 2 rfl (m := 88) (by simp only [U, lkp, zE, reduceCtorEq, E, Y, D]; exact rfl) (by kernel_rfl) rfl rfl rfl rfl rfl (fun hg15 => ?a15) ?b15 ?c15
 case a15 =>
  have hq15 := hg15; (try simp only [zB, reduceCtorEq] at hg15); simp only [List.take_succ_cons, List.take_zero, List.cons_append, List.nil_append]
  (refine aL rfl fun K0 V => ?_; simp only [zE, op1, ev, lkp, ai, ag, ev, reduceCtorEq, E, D, J, S, M, O, Try.td29, Dfa.av, Mly.av]; refine V _ ?_; clear V K0; simp only [put, app, aa, af, zE, zS, D])
  (refine aL rfl fun K0 V => ?_; simp only [zE, op1, ev, lkp, ai, ag, aC, aB, aD, ak, az, aO, reduceCtorEq, E, D, J, S, M, O, Try.td29, Try.td4, Dfa.av, Mly.av]; (repeat refine And.intro (by first | omega | assumption | exact rfl) ?_); refine V _ ?_; clear V K0; simp only [put, app, aa, af, zE, zS, D])
  (refine ab rfl fun K0 V => ?_; simp only [zE, op1, ev, lkp, ai, ag, bq, reduceCtorEq, E, D, J, S, M, O, Try.td4, Dfa.av, Mly.av]; refine V _ ?_; clear V K0; simp only [put, app, aa, af, zE, zS, D])
  refine ah ?_
  refine ⟨by simp only [U, lkp, zE, reduceCtorEq, E, Y, D]; exact rfl, rfl, ?_, rfl⟩; (repeat refine aV rfl ?_); exact bu (by exact rfl) hq15
 case b15 => exact bt (by first | rfl | (simp [c0]; done) | decide)
 simp only [bm, bb]
 (refine ab rfl fun K0 V => ?_; simp only [zE, op1, ev, lkp, ai, ag, ev, reduceCtorEq, E, D, J, S, M, O, Try.td4, Dfa.av, Mly.av]; refine V _ ?_; clear V K0; simp only [put, app, aa, af, zE, zS, D])
 refine' aU (want := true) 3 rfl (m := 92) (by simp only [U, lkp, zE, reduceCtorEq, E, Y, D]; exact rfl) (by kernel_rfl) rfl rfl rfl rfl rfl (fun hg16 => ?a16) ?b16 ?c16
 case a16 =>
  have hq16 := hg16; (try simp only [zB, reduceCtorEq] at hg16); simp only [List.take_succ_cons, List.take_zero, List.cons_append, List.nil_append]
  (refine aL rfl fun K0 V => ?_; simp only [zE, op1, ev, lkp, ai, ag, ev, reduceCtorEq, E, D, J, S, M, O, Try.el26, Try.td26, Dfa.av, Mly.av]; refine V _ ?_; clear V K0; simp only [put, app, aa, af, zE, zS, D])
  (refine aL rfl fun K0 V => ?_; simp only [zE, op1, ev, lkp, ai, ag, aZ, aW, bW, rep, aM, aN, am, Ty.size, reduceCtorEq, E, D, J, S, M, O, Try.el26, Try.td1, Try.td26, Dfa.av, Mly.av]; (repeat refine And.intro (by first | omega | assumption | exact rfl) ?_); (first | refine V _ ?_ | refine Or.inl (V _ ?_)); clear V K0; simp only [put, app, aa, af, zE, zS, D])
  refine aL rfl fun K0 V => ?_
  refine aS (h := aG (pg (lZ (coD dEv)) [1])) rfl rfl (by first | exact rfl | (simp only [ev, U, lkp, zE, reduceCtorEq, E, Y, D]; exact rfl)) (by simp only [zE, zG, op1, ev, lkp, ai, ag, am, acs, be, mv1, mvC, Ty.dflt, reduceCtorEq, E, D, J, S, M, O, Dfa.av, Mly.av]) ?_
  refine V _ ?_; clear V K0; simp only [put, app, aa, af, zE, zS, D]
  (refine ab rfl fun K0 V => ?_; simp only [zE, op1, ev, lkp, ai, ag, bq, reduceCtorEq, E, D, J, S, M, O, Try.td4, Dfa.av, Mly.av]; refine V _ ?_; clear V K0; simp only [put, app, aa, af, zE, zS, D])
  refine ah ?_
  refine ⟨by simp only [U, lkp, zE, reduceCtorEq, E, Y, D]; exact rfl, rfl, ?_, rfl⟩; (repeat refine aV rfl ?_); exact bu (by exact rfl) hq16
 case b16 => exact bt (by first | rfl | (simp [c0]; done) | decide)
 simp only [bm, bb]
 (refine ab rfl fun K0 V => ?_; simp only [zE, op1, ev, lkp, ai, ag, ev, reduceCtorEq, E, D, J, S, M, O, Try.td4, Dfa.av, Mly.av]; refine V _ ?_; clear V K0; simp only [put, app, aa, af, zE, zS, D])
 refine' aU (want := true) 1 rfl (m := 97) (by simp only [U, lkp, zE, reduceCtorEq, E, Y, D]; exact rfl) (by kernel_rfl) rfl rfl rfl rfl rfl (fun hg17 => ?a17) ?b17 ?c17
 case a17 =>
  have hq17 := hg17; (try simp only [zB, reduceCtorEq] at hg17); simp only [List.take_succ_cons, List.take_zero, List.cons_append, List.nil_append]
  (refine aL rfl fun K0 V => ?_; simp only [zE, op1, ev, lkp, ai, ag, ev, reduceCtorEq, E, D, J, S, M, O, Try.td4, Dfa.av, Mly.av]; refine V _ ?_; clear V K0; simp only [put, app, aa, af, zE, zS, D])
  (refine ab rfl fun K0 V => ?_; simp only [zE, op1, ev, lkp, ai, ag, bq, reduceCtorEq, E, D, J, S, M, O, Try.td4, Dfa.av, Mly.av]; refine V _ ?_; clear V K0; simp only [put, app, aa, af, zE, zS, D])
  refine ah ?_
  refine ⟨by simp only [U, lkp, zE, reduceCtorEq, E, Y, D]; exact rfl, rfl, ?_, rfl⟩; (repeat refine aV rfl ?_); exact bu (by exact rfl) hq17
 case b17 => exact bt (by first | rfl | (simp [c0]; done) | decide)
 simp only [bm, bb]
 (refine ab rfl fun K0 V => ?_; simp only [zE, op1, ev, lkp, ai, ag, ev, reduceCtorEq, E, D, J, S, M, O, Try.td4, Dfa.av, Mly.av]; refine V _ ?_; clear V K0; simp only [put, app, aa, af, zE, zS, D])
 refine' aU (want := true) 2 rfl (m := 100) (by simp only [U, lkp, zE, reduceCtorEq, E, Y, D]; exact rfl) (by kernel_rfl) rfl rfl rfl rfl rfl (fun hg18 => ?a18) ?b18 ?c18
 case a18 =>
  have hq18 := hg18; (try simp only [zB, reduceCtorEq] at hg18); simp only [List.take_succ_cons, List.take_zero, List.cons_append, List.nil_append]
  (refine aL rfl fun K0 V => ?_; simp only [zE, op1, ev, lkp, ai, ag, ev, reduceCtorEq, E, D, J, S, M, O, Try.td29, Dfa.av, Mly.av]; refine V _ ?_; clear V K0; simp only [put, app, aa, af, zE, zS, D])
  (refine aL rfl fun K0 V => ?_; simp only [zE, op1, ev, lkp, ai, ag, aC, aB, aD, ak, az, aO, reduceCtorEq, E, D, J, S, M, O, Try.td29, Try.td4, Dfa.av, Mly.av]; (repeat refine And.intro (by first | omega | assumption | exact rfl) ?_); refine V _ ?_; clear V K0; simp only [put, app, aa, af, zE, zS, D])
  (refine ab rfl fun K0 V => ?_; simp only [zE, op1, ev, lkp, ai, ag, bq, reduceCtorEq, E, D, J, S, M, O, Try.td4, Dfa.av, Mly.av]; refine V _ ?_; clear V K0; simp only [put, app, aa, af, zE, zS, D])
  refine ah ?_
  refine ⟨by simp only [U, lkp, zE, reduceCtorEq, E, Y, D]; exact rfl, rfl, ?_, rfl⟩; (repeat refine aV rfl ?_); exact bu (by exact rfl) hq18
 case b18 => exact bt (by first | rfl | (simp [c0]; done) | decide)
 simp only [bm, bb]
 (refine ab rfl fun K0 V => ?_; simp only [zE, op1, ev, lkp, ai, ag, ev, reduceCtorEq, E, D, J, S, M, O, Try.td4, Dfa.av, Mly.av]; refine V _ ?_; clear V K0; simp only [put, app, aa, af, zE, zS, D])
 refine' aU (want := true) 2 rfl (m := 104) (by simp only [U, lkp, zE, reduceCtorEq, E, Y, D]; exact rfl) (by kernel_rfl) rfl rfl rfl rfl rfl (fun hg19 => ?a19) ?b19 ?c19
 case a19 =>
  have hq19 := hg19; (try simp only [zB, reduceCtorEq] at hg19); simp only [List.take_succ_cons, List.take_zero, List.cons_append, List.nil_append]
  (refine aL rfl fun K0 V => ?_; simp only [zE, op1, ev, lkp, ai, ag, ev, reduceCtorEq, E, D, J, S, M, O, Try.td3, Dfa.av, Mly.av]; refine V _ ?_; clear V K0; simp only [put, app, aa, af, zE, zS, D])
  (refine aL rfl fun K0 V => ?_; simp only [zE, op1, ev, lkp, ai, ag, aC, aB, aD, ak, az, aO, reduceCtorEq, E, D, J, S, M, O, Try.td3, Try.td4, Dfa.av, Mly.av]; (repeat refine And.intro (by first | omega | assumption | exact rfl) ?_); refine V _ ?_; clear V K0; simp only [put, app, aa, af, zE, zS, D])
  (refine ab rfl fun K0 V => ?_; simp only [zE, op1, ev, lkp, ai, ag, bq, reduceCtorEq, E, D, J, S, M, O, Try.td4, Dfa.av, Mly.av]; refine V _ ?_; clear V K0; simp only [put, app, aa, af, zE, zS, D])
  refine ah ?_
  refine ⟨by simp only [U, lkp, zE, reduceCtorEq, E, Y, D]; exact rfl, rfl, ?_, rfl⟩; (repeat refine aV rfl ?_); exact bu (by exact rfl) hq19
 case b19 => exact bt (by first | rfl | (simp [c0]; done) | decide)
 simp only [bm, bb]
 (refine ab rfl fun K0 V => ?_; simp only [zE, op1, ev, lkp, ai, ag, ev, reduceCtorEq, E, D, J, S, M, O, Try.td4, Dfa.av, Mly.av]; refine V _ ?_; clear V K0; simp only [put, app, aa, af, zE, zS, D])
 refine' aU (want := true) 2 rfl (m := 108) (by simp only [U, lkp, zE, reduceCtorEq, E, Y, D]; exact rfl) (by kernel_rfl) rfl rfl rfl rfl rfl (fun hg20 => ?a20) ?b20 ?c20
 case a20 =>
  have hq20 := hg20; (try simp only [zB, reduceCtorEq] at hg20); simp only [List.take_succ_cons, List.take_zero, List.cons_append, List.nil_append]
  (refine aL rfl fun K0 V => ?_; simp only [zE, op1, ev, lkp, ai, ag, ev, reduceCtorEq, E, D, J, S, M, O, Try.td29, Dfa.av, Mly.av]; refine V _ ?_; clear V K0; simp only [put, app, aa, af, zE, zS, D])
  (refine aL rfl fun K0 V => ?_; simp only [zE, op1, ev, lkp, ai, ag, aC, aB, aD, ak, az, aO, reduceCtorEq, E, D, J, S, M, O, Try.td29, Try.td4, Dfa.av, Mly.av]; (repeat refine And.intro (by first | omega | assumption | exact rfl) ?_); refine V _ ?_; clear V K0; simp only [put, app, aa, af, zE, zS, D])
  (refine ab rfl fun K0 V => ?_; simp only [zE, op1, ev, lkp, ai, ag, bq, reduceCtorEq, E, D, J, S, M, O, Try.td4, Dfa.av, Mly.av]; refine V _ ?_; clear V K0; simp only [put, app, aa, af, zE, zS, D])
  refine ah ?_
  refine ⟨by simp only [U, lkp, zE, reduceCtorEq, E, Y, D]; exact rfl, rfl, ?_, rfl⟩; (repeat refine aV rfl ?_); exact bu (by exact rfl) hq20
 case b20 => exact bt (by first | rfl | (simp [c0]; done) | decide)
 simp only [bm, bb]
 (refine ab rfl fun K0 V => ?_; simp only [zE, op1, ev, lkp, ai, ag, ev, reduceCtorEq, E, D, J, S, M, O, Try.td4, Dfa.av, Mly.av]; refine V _ ?_; clear V K0; simp only [put, app, aa, af, zE, zS, D])
 refine' aU (want := true) 4 rfl (m := 112) (by simp only [U, lkp, zE, reduceCtorEq, E, Y, D]; exact rfl) (by kernel_rfl) rfl rfl rfl rfl rfl (fun hg21 => ?a21) ?b21 ?c21
 case a21 =>
  have hq21 := hg21; (try simp only [zB, reduceCtorEq] at hg21); simp only [List.take_succ_cons, List.take_zero, List.cons_append, List.nil_append]
  (refine aL rfl fun K0 V => ?_; simp only [zE, op1, ev, lkp, ai, ag, aw, reduceCtorEq, E, D, J, S, M, O, Try.st25, Try.td2, Try.td25, Dfa.av, Mly.av]; (repeat refine And.intro (by first | omega | assumption | exact rfl) ?_); refine V _ ?_; clear V K0; simp only [put, app, aa, af, zE, zS, D])
  (refine aL rfl fun K0 V => ?_; simp only [zE, op1, ev, lkp, ai, ag, ay, Nat.mul_one, au, ax, acs, Ty.dflt, zG, ao, reduceCtorEq, E, D, J, S, M, O, Try.el22, Try.td22, Dfa.av, Mly.av]; (repeat refine And.intro (by first | omega | assumption | exact rfl) ?_); refine V _ ?_; clear V K0; simp only [put, app, aa, af, zE, zS, D])
  (refine aL rfl fun K0 V => ?_; simp only [zE, op1, ev, lkp, ai, ag, aK, br, bf, aY, b0, bn, Nat.div_one, aP, ba, Ty.size, aM, dite_true, reduceCtorEq, E, D, J, S, M, O, Try.el22, Try.td22, Try.td3, Dfa.av, Mly.av]; (repeat refine And.intro (by first | omega | assumption | exact rfl) ?_); (first | refine V _ ?_ | refine Or.inl (V _ ?_)); clear V K0; simp only [put, app, aa, af, zE, zS, D])
  (refine aL rfl fun K0 V => ?_; simp only [zE, op1, ev, lkp, ai, ag, aC, aB, aD, ak, az, aO, reduceCtorEq, E, D, J, S, M, O, Try.td3, Try.td4, Dfa.av, Mly.av]; (repeat refine And.intro (by first | omega | assumption | exact rfl) ?_); refine V _ ?_; clear V K0; simp only [put, app, aa, af, zE, zS, D])
  (refine ab rfl fun K0 V => ?_; simp only [zE, op1, ev, lkp, ai, ag, bq, reduceCtorEq, E, D, J, S, M, O, Try.td4, Dfa.av, Mly.av]; refine V _ ?_; clear V K0; simp only [put, app, aa, af, zE, zS, D])
  refine ah ?_
  refine ⟨by simp only [U, lkp, zE, reduceCtorEq, E, Y, D]; exact rfl, rfl, ?_, rfl⟩; (repeat refine aV rfl ?_); exact bu (by exact rfl) hq21
 case b21 => exact bt (by first | rfl | (simp [c0]; done) | decide)
 simp only [bm, bb]
 (refine ab rfl fun K0 V => ?_; simp only [zE, op1, ev, lkp, ai, ag, ev, reduceCtorEq, E, D, J, S, M, O, Try.td4, Dfa.av, Mly.av]; refine V _ ?_; clear V K0; simp only [put, app, aa, af, zE, zS, D])
 refine' aU (want := true) 2 rfl (m := 118) (by simp only [U, lkp, zE, reduceCtorEq, E, Y, D]; exact rfl) (by kernel_rfl) rfl rfl rfl rfl rfl (fun hg22 => ?a22) ?b22 ?c22
 case a22 =>
  have hq22 := hg22; (try simp only [zB, reduceCtorEq] at hg22); simp only [List.take_succ_cons, List.take_zero, List.cons_append, List.nil_append]
  (refine aL rfl fun K0 V => ?_; simp only [zE, op1, ev, lkp, ai, ag, ev, reduceCtorEq, E, D, J, S, M, O, Try.td29, Dfa.av, Mly.av]; refine V _ ?_; clear V K0; simp only [put, app, aa, af, zE, zS, D])
  (refine aL rfl fun K0 V => ?_; simp only [zE, op1, ev, lkp, ai, ag, aC, aB, aD, ak, az, aO, reduceCtorEq, E, D, J, S, M, O, Try.td29, Try.td4, Dfa.av, Mly.av]; (repeat refine And.intro (by first | omega | assumption | exact rfl) ?_); refine V _ ?_; clear V K0; simp only [put, app, aa, af, zE, zS, D])
  (refine ab rfl fun K0 V => ?_; simp only [zE, op1, ev, lkp, ai, ag, bq, reduceCtorEq, E, D, J, S, M, O, Try.td4, Dfa.av, Mly.av]; refine V _ ?_; clear V K0; simp only [put, app, aa, af, zE, zS, D])
  refine ah ?_
  refine ⟨by simp only [U, lkp, zE, reduceCtorEq, E, Y, D]; exact rfl, rfl, ?_, rfl⟩; (repeat refine aV rfl ?_); exact bu (by exact rfl) hq22
 case b22 => exact bt (by first | rfl | (simp [c0]; done) | decide)
 simp only [bm, bb]
 (refine ab rfl fun K0 V => ?_; simp only [zE, op1, ev, lkp, ai, ag, ev, reduceCtorEq, E, D, J, S, M, O, Try.td4, Dfa.av, Mly.av]; refine V _ ?_; clear V K0; simp only [put, app, aa, af, zE, zS, D])
 refine' aU (want := true) 6 rfl (m := 122) (by simp only [U, lkp, zE, reduceCtorEq, E, Y, D]; exact rfl) (by kernel_rfl) rfl rfl rfl rfl rfl (fun hg23 => ?a23) ?b23 ?c23
 case a23 =>
  have hq23 := hg23; (try simp only [zB, reduceCtorEq] at hg23); simp only [List.take_succ_cons, List.take_zero, List.cons_append, List.nil_append]
  (refine aL rfl fun K0 V => ?_; simp only [zE, op1, ev, lkp, ai, ag, ay, Nat.mul_one, au, ax, acs, Ty.dflt, zG, ao, reduceCtorEq, E, D, J, S, M, O, Try.st25, Try.td25, Dfa.av, Mly.av]; (repeat refine And.intro (by first | omega | assumption | exact rfl) ?_); refine V _ ?_; clear V K0; simp only [put, app, aa, af, zE, zS, D])
  (refine aL rfl fun K0 V => ?_; simp only [zE, op1, ev, lkp, ai, ag, aZ, aW, bW, rep, aM, aN, am, Ty.size, reduceCtorEq, E, D, J, S, M, O, Try.el26, Try.td2, Try.td26, Dfa.av, Mly.av]; (repeat refine And.intro (by first | omega | assumption | exact rfl) ?_); (first | refine V _ ?_ | refine Or.inl (V _ ?_)); clear V K0; simp only [put, app, aa, af, zE, zS, D])
  (refine aL rfl fun K0 V => ?_; simp only [zE, op1, ev, lkp, ai, ag, aZ, aW, bW, rep, aM, aN, am, Ty.size, reduceCtorEq, E, D, J, S, M, O, Try.el22, Try.td1, Try.td22, Dfa.av, Mly.av]; (repeat refine And.intro (by first | omega | assumption | exact rfl) ?_); (first | refine V _ ?_ | refine Or.inl (V _ ?_)); clear V K0; simp only [put, app, aa, af, zE, zS, D])
  (refine aL rfl fun K0 V => ?_; simp only [zE, op1, ev, lkp, ai, ag, aZ, aW, bW, rep, aM, aN, am, Ty.size, reduceCtorEq, E, D, J, S, M, O, Try.el23, Try.td1, Try.td23, Dfa.av, Mly.av]; (repeat refine And.intro (by first | omega | assumption | exact rfl) ?_); (first | refine V _ ?_ | refine Or.inl (V _ ?_)); clear V K0; simp only [put, app, aa, af, zE, zS, D])
  (refine aL rfl fun K0 V => ?_; simp only [zE, op1, ev, lkp, ai, ag, bM, aW, aN, am, reduceCtorEq, E, D, J, S, M, O, Try.st25, Try.td25, Dfa.av, Mly.av]; (repeat refine And.intro (by first | omega | assumption | exact rfl) ?_); (first | refine V _ ?_ | refine Or.inl (V _ ?_)); clear V K0; simp only [put, app, aa, af, zE, zS, D])
  refine aL rfl fun K0 V => ?_
  refine aS (h := aG (kR (fa (cr 3 dEv (coD dEv))) ⟨2, 0, [[0, 0]], [true]⟩ (by decide +kernel))) rfl rfl (by first | exact rfl | (simp only [ev, U, lkp, zE, reduceCtorEq, E, Y, D]; exact rfl)) (by simp only [zE, zG, op1, ev, lkp, ai, ag, am, acs, be, mv1, mvC, Ty.dflt, reduceCtorEq, E, D, J, S, M, O, Dfa.av, Mly.av]) ?_
  refine V _ ?_; clear V K0; simp only [put, app, aa, af, zE, zS, D]
  (refine ab rfl fun K0 V => ?_; simp only [zE, op1, ev, lkp, ai, ag, bq, reduceCtorEq, E, D, J, S, M, O, Try.td4, Dfa.av, Mly.av]; refine V _ ?_; clear V K0; simp only [put, app, aa, af, zE, zS, D])
  refine ah ?_
  refine ⟨by simp only [U, lkp, zE, reduceCtorEq, E, Y, D]; exact rfl, rfl, ?_, rfl⟩; (repeat refine aV rfl ?_); exact bu (by exact rfl) hq23
 case b23 => exact bt (by first | rfl | (simp [c0]; done) | decide)
 simp only [bm, bb]
 (refine ab rfl fun K0 V => ?_; simp only [zE, op1, ev, lkp, ai, ag, ev, reduceCtorEq, E, D, J, S, M, O, Try.td4, Dfa.av, Mly.av]; refine V _ ?_; clear V K0; simp only [put, app, aa, af, zE, zS, D])
 refine' aU (want := true) 2 rfl (m := 130) (by simp only [U, lkp, zE, reduceCtorEq, E, Y, D]; exact rfl) (by kernel_rfl) rfl rfl rfl rfl rfl (fun hg24 => ?a24) ?b24 ?c24
 case a24 =>
  have hq24 := hg24; (try simp only [zB, reduceCtorEq] at hg24); simp only [List.take_succ_cons, List.take_zero, List.cons_append, List.nil_append]
  (refine aL rfl fun K0 V => ?_; simp only [zE, op1, ev, lkp, ai, ag, ev, reduceCtorEq, E, D, J, S, M, O, Try.td29, Dfa.av, Mly.av]; refine V _ ?_; clear V K0; simp only [put, app, aa, af, zE, zS, D])
  (refine aL rfl fun K0 V => ?_; simp only [zE, op1, ev, lkp, ai, ag, aC, aB, aD, ak, az, aO, reduceCtorEq, E, D, J, S, M, O, Try.td29, Try.td4, Dfa.av, Mly.av]; (repeat refine And.intro (by first | omega | assumption | exact rfl) ?_); refine V _ ?_; clear V K0; simp only [put, app, aa, af, zE, zS, D])
  (refine ab rfl fun K0 V => ?_; simp only [zE, op1, ev, lkp, ai, ag, bq, reduceCtorEq, E, D, J, S, M, O, Try.td4, Dfa.av, Mly.av]; refine V _ ?_; clear V K0; simp only [put, app, aa, af, zE, zS, D])
  refine ah ?_
  refine ⟨by simp only [U, lkp, zE, reduceCtorEq, E, Y, D]; exact rfl, rfl, ?_, rfl⟩; (repeat refine aV rfl ?_); exact bu (by exact rfl) hq24
 case b24 => exact bt (by first | rfl | (simp [c0]; done) | decide)
 simp only [bm, bb]
 (refine ab rfl fun K0 V => ?_; simp only [zE, op1, ev, lkp, ai, ag, ev, reduceCtorEq, E, D, J, S, M, O, Try.td4, Dfa.av, Mly.av]; refine V _ ?_; clear V K0; simp only [put, app, aa, af, zE, zS, D])
 refine' aU (want := true) 1 rfl (m := 134) (by simp only [U, lkp, zE, reduceCtorEq, E, Y, D]; exact rfl) (by kernel_rfl) rfl rfl rfl rfl rfl (fun hg25 => ?a25) ?b25 ?c25
 case a25 =>
  have hq25 := hg25; (try simp only [zB, reduceCtorEq] at hg25); simp only [List.take_succ_cons, List.take_zero, List.cons_append, List.nil_append]
  (refine aL rfl fun K0 V => ?_; simp only [zE, op1, ev, lkp, ai, ag, ev, reduceCtorEq, E, D, J, S, M, O, Try.td4, Dfa.av, Mly.av]; refine V _ ?_; clear V K0; simp only [put, app, aa, af, zE, zS, D])
  (refine ab rfl fun K0 V => ?_; simp only [zE, op1, ev, lkp, ai, ag, bq, reduceCtorEq, E, D, J, S, M, O, Try.td4, Dfa.av, Mly.av]; refine V _ ?_; clear V K0; simp only [put, app, aa, af, zE, zS, D])
  refine ah ?_
  refine ⟨by simp only [U, lkp, zE, reduceCtorEq, E, Y, D]; exact rfl, rfl, ?_, rfl⟩; (repeat refine aV rfl ?_); exact bu (by exact rfl) hq25
 case b25 => exact bt (by first | rfl | (simp [c0]; done) | decide)
 simp only [bm, bb]
 (refine ab rfl fun K0 V => ?_; simp only [zE, op1, ev, lkp, ai, ag, ev, reduceCtorEq, E, D, J, S, M, O, Try.td4, Dfa.av, Mly.av]; refine V _ ?_; clear V K0; simp only [put, app, aa, af, zE, zS, D])
 refine' aU (want := true) 2 rfl (m := 137) (by simp only [U, lkp, zE, reduceCtorEq, E, Y, D]; exact rfl) (by kernel_rfl) rfl rfl rfl rfl rfl (fun hg26 => ?a26) ?b26 ?c26
 case a26 =>
  have hq26 := hg26; (try simp only [zB, reduceCtorEq] at hg26); simp only [List.take_succ_cons, List.take_zero, List.cons_append, List.nil_append]
  (refine aL rfl fun K0 V => ?_; simp only [zE, op1, ev, lkp, ai, ag, ev, reduceCtorEq, E, D, J, S, M, O, Try.td29, Dfa.av, Mly.av]; refine V _ ?_; clear V K0; simp only [put, app, aa, af, zE, zS, D])
  (refine aL rfl fun K0 V => ?_; simp only [zE, op1, ev, lkp, ai, ag, aC, aB, aD, ak, az, aO, reduceCtorEq, E, D, J, S, M, O, Try.td29, Try.td4, Dfa.av, Mly.av]; (repeat refine And.intro (by first | omega | assumption | exact rfl) ?_); refine V _ ?_; clear V K0; simp only [put, app, aa, af, zE, zS, D])
  (refine ab rfl fun K0 V => ?_; simp only [zE, op1, ev, lkp, ai, ag, bq, reduceCtorEq, E, D, J, S, M, O, Try.td4, Dfa.av, Mly.av]; refine V _ ?_; clear V K0; simp only [put, app, aa, af, zE, zS, D])
  refine ah ?_
  refine ⟨by simp only [U, lkp, zE, reduceCtorEq, E, Y, D]; exact rfl, rfl, ?_, rfl⟩; (repeat refine aV rfl ?_); exact bu (by exact rfl) hq26
 case b26 => exact bt (by first | rfl | (simp [c0]; done) | decide)
 simp only [bm, bb]
 (refine ab rfl fun K0 V => ?_; simp only [zE, op1, ev, lkp, ai, ag, ev, reduceCtorEq, E, D, J, S, M, O, Try.td4, Dfa.av, Mly.av]; refine V _ ?_; clear V K0; simp only [put, app, aa, af, zE, zS, D])
 refine' aU (want := true) 2 rfl (m := 141) (by simp only [U, lkp, zE, reduceCtorEq, E, Y, D]; exact rfl) (by kernel_rfl) rfl rfl rfl rfl rfl (fun hg27 => ?a27) ?b27 ?c27
 case a27 =>
  have hq27 := hg27; (try simp only [zB, reduceCtorEq] at hg27); simp only [List.take_succ_cons, List.take_zero, List.cons_append, List.nil_append]
  (refine aL rfl fun K0 V => ?_; simp only [zE, op1, ev, lkp, ai, ag, ev, reduceCtorEq, E, D, J, S, M, O, Try.td4, Dfa.av, Mly.av]; refine V _ ?_; clear V K0; simp only [put, app, aa, af, zE, zS, D])
  (refine aL rfl fun K0 V => ?_; simp only [zE, op1, ev, lkp, ai, ag, gb, reduceCtorEq, E, D, J, S, M, O, Try.td4, Dfa.av, Mly.av]; (repeat refine And.intro (by first | omega | assumption | exact rfl) ?_); refine V _ ?_; clear V K0; simp only [put, app, aa, af, zE, zS, D])
  (refine ab rfl fun K0 V => ?_; simp only [zE, op1, ev, lkp, ai, ag, bq, reduceCtorEq, E, D, J, S, M, O, Try.td4, Dfa.av, Mly.av]; refine V _ ?_; clear V K0; simp only [put, app, aa, af, zE, zS, D])
  refine ah ?_
  refine ⟨by simp only [U, lkp, zE, reduceCtorEq, E, Y, D]; exact rfl, rfl, ?_, rfl⟩; (repeat refine aV rfl ?_); exact bu (by exact rfl) hq27
 case b27 => exact bt (by first | rfl | (simp [c0]; done) | decide)
 simp only [bm, bb]
 (refine ab rfl fun K0 V => ?_; simp only [zE, op1, ev, lkp, ai, ag, ev, reduceCtorEq, E, D, J, S, M, O, Try.td4, Dfa.av, Mly.av]; refine V _ ?_; clear V K0; simp only [put, app, aa, af, zE, zS, D])
 refine' aU (want := true) 2 rfl (m := 145) (by simp only [U, lkp, zE, reduceCtorEq, E, Y, D]; exact rfl) (by kernel_rfl) rfl rfl rfl rfl rfl (fun hg28 => ?a28) ?b28 ?c28
 case a28 =>
  have hq28 := hg28; (try simp only [zB, reduceCtorEq] at hg28); simp only [List.take_succ_cons, List.take_zero, List.cons_append, List.nil_append]
  (refine aL rfl fun K0 V => ?_; simp only [zE, op1, ev, lkp, ai, ag, ev, reduceCtorEq, E, D, J, S, M, O, Try.td29, Dfa.av, Mly.av]; refine V _ ?_; clear V K0; simp only [put, app, aa, af, zE, zS, D])
  (refine aL rfl fun K0 V => ?_; simp only [zE, op1, ev, lkp, ai, ag, aC, aB, aD, ak, az, aO, reduceCtorEq, E, D, J, S, M, O, Try.td29, Try.td4, Dfa.av, Mly.av]; (repeat refine And.intro (by first | omega | assumption | exact rfl) ?_); refine V _ ?_; clear V K0; simp only [put, app, aa, af, zE, zS, D])
  (refine ab rfl fun K0 V => ?_; simp only [zE, op1, ev, lkp, ai, ag, bq, reduceCtorEq, E, D, J, S, M, O, Try.td4, Dfa.av, Mly.av]; refine V _ ?_; clear V K0; simp only [put, app, aa, af, zE, zS, D])
  refine ah ?_
  refine ⟨by simp only [U, lkp, zE, reduceCtorEq, E, Y, D]; exact rfl, rfl, ?_, rfl⟩; (repeat refine aV rfl ?_); exact bu (by exact rfl) hq28
 case b28 => exact bt (by first | rfl | (simp [c0]; done) | decide)
 simp only [bm, bb]
 (refine ab rfl fun K0 V => ?_; simp only [zE, op1, ev, lkp, ai, ag, ev, reduceCtorEq, E, D, J, S, M, O, Try.td4, Dfa.av, Mly.av]; refine V _ ?_; clear V K0; simp only [put, app, aa, af, zE, zS, D])
 refine' aU (want := true) 6 rfl (m := 149) (by simp only [U, lkp, zE, reduceCtorEq, E, Y, D]; exact rfl) (by kernel_rfl) rfl rfl rfl rfl rfl (fun hg29 => ?a29) ?b29 ?c29
 case a29 =>
  have hq29 := hg29; (try simp only [zB, reduceCtorEq] at hg29); simp only [List.take_succ_cons, List.take_zero, List.cons_append, List.nil_append]
  (refine aL rfl fun K0 V => ?_; simp only [zE, op1, ev, lkp, ai, ag, aw, reduceCtorEq, E, D, J, S, M, O, Try.st58, Try.td3, Try.td58, Dfa.av, Mly.av]; (repeat refine And.intro (by first | omega | assumption | exact rfl) ?_); refine V _ ?_; clear V K0; simp only [put, app, aa, af, zE, zS, D])
  (refine aL rfl fun K0 V => ?_; simp only [zE, op1, ev, lkp, ai, ag, ay, Nat.mul_one, au, ax, acs, Ty.dflt, zG, ao, reduceCtorEq, E, D, J, S, M, O, Try.el22, Try.td22, Dfa.av, Mly.av]; (repeat refine And.intro (by first | omega | assumption | exact rfl) ?_); refine V _ ?_; clear V K0; simp only [put, app, aa, af, zE, zS, D])
  (refine aL rfl fun K0 V => ?_; simp only [zE, op1, ev, lkp, ai, ag, aZ, aW, bW, rep, aM, aN, am, Ty.size, reduceCtorEq, E, D, J, S, M, O, Try.el26, Try.td2, Try.td26, Dfa.av, Mly.av]; (repeat refine And.intro (by first | omega | assumption | exact rfl) ?_); (first | refine V _ ?_ | refine Or.inl (V _ ?_)); clear V K0; simp only [put, app, aa, af, zE, zS, D])
  (refine aL rfl fun K0 V => ?_; simp only [zE, op1, ev, lkp, ai, ag, aZ, aW, bW, rep, aM, aN, am, Ty.size, reduceCtorEq, E, D, J, S, M, O, Try.el26, Try.td2, Try.td26, Dfa.av, Mly.av]; (repeat refine And.intro (by first | omega | assumption | exact rfl) ?_); (first | refine V _ ?_ | refine Or.inl (V _ ?_)); clear V K0; simp only [put, app, aa, af, zE, zS, D])
  (refine aL rfl fun K0 V => ?_; simp only [zE, op1, ev, lkp, ai, ag, aZ, aW, bW, rep, aM, aN, am, Ty.size, reduceCtorEq, E, D, J, S, M, O, Try.el22, Try.td2, Try.td22, Dfa.av, Mly.av]; (repeat refine And.intro (by first | omega | assumption | exact rfl) ?_); (first | refine V _ ?_ | refine Or.inl (V _ ?_)); clear V K0; simp only [put, app, aa, af, zE, zS, D])
  refine aL rfl fun K0 V => ?_
  refine aS (h := aG (iI (toM dEv).ot [[1, 0], [0, 1]])) rfl rfl (by first | exact rfl | (simp only [ev, U, lkp, zE, reduceCtorEq, E, Y, D]; exact rfl)) (by simp only [zE, zG, op1, ev, lkp, ai, ag, am, acs, be, mv1, mvC, Ty.dflt, reduceCtorEq, E, D, J, S, M, O, Dfa.av, Mly.av]) ?_
  refine V _ ?_; clear V K0; simp only [put, app, aa, af, zE, zS, D]
  (refine ab rfl fun K0 V => ?_; simp only [zE, op1, ev, lkp, ai, ag, bq, reduceCtorEq, E, D, J, S, M, O, Try.td4, Dfa.av, Mly.av]; refine V _ ?_; clear V K0; simp only [put, app, aa, af, zE, zS, D])
  refine ah ?_
  refine ⟨by simp only [U, lkp, zE, reduceCtorEq, E, Y, D]; exact rfl, rfl, ?_, rfl⟩; (repeat refine aV rfl ?_); exact bu (by exact rfl) hq29
 case b29 => exact bt (by first | rfl | (simp [c0]; done) | decide)
 simp only [bm, bb]
 (refine ab rfl fun K0 V => ?_; simp only [zE, op1, ev, lkp, ai, ag, ev, reduceCtorEq, E, D, J, S, M, O, Try.td4, Dfa.av, Mly.av]; refine V _ ?_; clear V K0; simp only [put, app, aa, af, zE, zS, D])
 refine' aU (want := true) 2 rfl (m := 157) (by simp only [U, lkp, zE, reduceCtorEq, E, Y, D]; exact rfl) (by kernel_rfl) rfl rfl rfl rfl rfl (fun hg30 => ?a30) ?b30 ?c30
 case a30 =>
  have hq30 := hg30; (try simp only [zB, reduceCtorEq] at hg30); simp only [List.take_succ_cons, List.take_zero, List.cons_append, List.nil_append]
  (refine aL rfl fun K0 V => ?_; simp only [zE, op1, ev, lkp, ai, ag, ev, reduceCtorEq, E, D, J, S, M, O, Try.td29, Dfa.av, Mly.av]; refine V _ ?_; clear V K0; simp only [put, app, aa, af, zE, zS, D])
  (refine aL rfl fun K0 V => ?_; simp only [zE, op1, ev, lkp, ai, ag, aC, aB, aD, ak, az, aO, reduceCtorEq, E, D, J, S, M, O, Try.td29, Try.td4, Dfa.av, Mly.av]; (repeat refine And.intro (by first | omega | assumption | exact rfl) ?_); refine V _ ?_; clear V K0; simp only [put, app, aa, af, zE, zS, D])
  (refine ab rfl fun K0 V => ?_; simp only [zE, op1, ev, lkp, ai, ag, bq, reduceCtorEq, E, D, J, S, M, O, Try.td4, Dfa.av, Mly.av]; refine V _ ?_; clear V K0; simp only [put, app, aa, af, zE, zS, D])
  refine ah ?_
  refine ⟨by simp only [U, lkp, zE, reduceCtorEq, E, Y, D]; exact rfl, rfl, ?_, rfl⟩; (repeat refine aV rfl ?_); exact bu (by exact rfl) hq30
 case b30 => exact bt (by first | rfl | (simp [c0]; done) | decide)
 simp only [bm, bb]
 (refine ab rfl fun K0 V => ?_; simp only [zE, op1, ev, lkp, ai, ag, ev, reduceCtorEq, E, D, J, S, M, O, Try.td4, Dfa.av, Mly.av]; refine V _ ?_; clear V K0; simp only [put, app, aa, af, zE, zS, D])
 refine' aU (want := true) 3 rfl (m := 161) (by simp only [U, lkp, zE, reduceCtorEq, E, Y, D]; exact rfl) (by kernel_rfl) rfl rfl rfl rfl rfl (fun hg31 => ?a31) ?b31 ?c31
 case a31 =>
  have hq31 := hg31; (try simp only [zB, reduceCtorEq] at hg31); simp only [List.take_succ_cons, List.take_zero, List.cons_append, List.nil_append]
  (refine aL rfl fun K0 V => ?_; simp only [zE, op1, ev, lkp, ai, ag, ay, Nat.mul_one, au, ax, acs, Ty.dflt, zG, ao, reduceCtorEq, E, D, J, S, M, O, Try.st25, Try.td25, Dfa.av, Mly.av]; (repeat refine And.intro (by first | omega | assumption | exact rfl) ?_); refine V _ ?_; clear V K0; simp only [put, app, aa, af, zE, zS, D])
  (refine aL rfl fun K0 V => ?_; simp only [zE, op1, ev, lkp, ai, ag, ay, Nat.mul_one, au, ax, acs, Ty.dflt, zG, ao, reduceCtorEq, E, D, J, S, M, O, Try.st25, Try.td25, Dfa.av, Mly.av]; (repeat refine And.intro (by first | omega | assumption | exact rfl) ?_); refine V _ ?_; clear V K0; simp only [put, app, aa, af, zE, zS, D])
  refine aL rfl fun K0 V => ?_
  refine aS (h := aG (kR (fmD (toM dEv) true) dEv (by decide +kernel))) rfl rfl (by first | exact rfl | (simp only [ev, U, lkp, zE, reduceCtorEq, E, Y, D]; exact rfl)) (by simp only [zE, zG, op1, ev, lkp, ai, ag, am, acs, be, mv1, mvC, Ty.dflt, reduceCtorEq, E, D, J, S, M, O, Dfa.av, Mly.av]) ?_
  refine V _ ?_; clear V K0; simp only [put, app, aa, af, zE, zS, D]
  (refine ab rfl fun K0 V => ?_; simp only [zE, op1, ev, lkp, ai, ag, bq, reduceCtorEq, E, D, J, S, M, O, Try.td4, Dfa.av, Mly.av]; refine V _ ?_; clear V K0; simp only [put, app, aa, af, zE, zS, D])
  refine ah ?_
  refine ⟨by simp only [U, lkp, zE, reduceCtorEq, E, Y, D]; exact rfl, rfl, ?_, rfl⟩; (repeat refine aV rfl ?_); exact bu (by exact rfl) hq31
 case b31 => exact bt (by first | rfl | (simp [c0]; done) | decide)
 simp only [bm, bb]
 (refine ab rfl fun K0 V => ?_; simp only [zE, op1, ev, lkp, ai, ag, ev, reduceCtorEq, E, D, J, S, M, O, Try.td4, Dfa.av, Mly.av]; refine V _ ?_; clear V K0; simp only [put, app, aa, af, zE, zS, D])
 refine' aU (want := true) 2 rfl (m := 166) (by simp only [U, lkp, zE, reduceCtorEq, E, Y, D]; exact rfl) (by kernel_rfl) rfl rfl rfl rfl rfl (fun hg32 => ?a32) ?b32 ?c32
 case a32 =>
  have hq32 := hg32; (try simp only [zB, reduceCtorEq] at hg32); simp only [List.take_succ_cons, List.take_zero, List.cons_append, List.nil_append]
  (refine aL rfl fun K0 V => ?_; simp only [zE, op1, ev, lkp, ai, ag, ev, reduceCtorEq, E, D, J, S, M, O, Try.td29, Dfa.av, Mly.av]; refine V _ ?_; clear V K0; simp only [put, app, aa, af, zE, zS, D])
  (refine aL rfl fun K0 V => ?_; simp only [zE, op1, ev, lkp, ai, ag, aC, aB, aD, ak, az, aO, reduceCtorEq, E, D, J, S, M, O, Try.td29, Try.td4, Dfa.av, Mly.av]; (repeat refine And.intro (by first | omega | assumption | exact rfl) ?_); refine V _ ?_; clear V K0; simp only [put, app, aa, af, zE, zS, D])
  (refine ab rfl fun K0 V => ?_; simp only [zE, op1, ev, lkp, ai, ag, bq, reduceCtorEq, E, D, J, S, M, O, Try.td4, Dfa.av, Mly.av]; refine V _ ?_; clear V K0; simp only [put, app, aa, af, zE, zS, D])
  refine ah ?_
  refine ⟨by simp only [U, lkp, zE, reduceCtorEq, E, Y, D]; exact rfl, rfl, ?_, rfl⟩; (repeat refine aV rfl ?_); exact bu (by exact rfl) hq32
 case b32 => exact bt (by first | rfl | (simp [c0]; done) | decide)
 simp only [bm, bb]
 (refine ab rfl fun K0 V => ?_; simp only [zE, op1, ev, lkp, ai, ag, ev, reduceCtorEq, E, D, J, S, M, O, Try.td4, Dfa.av, Mly.av]; refine V _ ?_; clear V K0; simp only [put, app, aa, af, zE, zS, D])
 refine ah ?_
 refine hK13 _ ?_; clear hK13; refine ad [0, 1, 2, 3, 4, 5, 6, 7, 8, 9, 10, 11, 12, 13, 14, 16, 17, 19, 20, 21, 22, 23, 24] ?_; simp only [U, lkp, zE, reduceCtorEq, E, Y, D]
 refine aJ ?_
 refine ⟨by first | exact .inl rfl | exact .inr rfl, _, rfl, ?_⟩; simp only [fzV, fz1, fzC, List.map_cons, List.map_nil, U, lkp, zE, reduceCtorEq, E, Y, D, Dfa.av, Mly.av]
 refine VLE.of_eq ?_
 refine congrArg (fun b => AV.one (AC.bool b)) ?_
 decide +kernel
end Go.Proofs.Ytdkgcbhbpdbmnaa
namespace Go.Proofs.Ytdkgcbhbpdbmnaa
open Go Go.AV
open Nat renaming reduceEqDiff → E, reduceAdd → D, reduceLeDiff → J, reduceLT → S, reduceMul → M, reduceSub → O
open List renaming set_cons_zero → ar, set_cons_succ → aq
set_option maxRecDepth 100000 in
theorem qN (d : Dfa) : bH Try.prog 10 [d.av] (.one (.bool (grD d))) := by
 refine aR Try.func10 rfl (by kernel_rfl) (Nat.le_of_ble_eq_true rfl) rfl fun C hP hN hB => ?_
 replace hN : C.N = 32 := hN
 simp only [Y, D]
 refine Z fun K1 hK1 => ?_
 refine ae hP hN rfl ?_
 iterate 2 (refine ab rfl fun K0 V => ?_; simp only [zE, op1, ev, lkp, ai, ag, ch, am, reduceCtorEq, E, D, J, S, M, O, Try.st25, Try.td25, Try.td4, Dfa.av]; (repeat refine And.intro (by first | omega | assumption | exact rfl) ?_); refine V _ ?_; clear V K0; simp only [put, app, aa, af, zE, zS, D])
 refine ah ?_
 refine hK1 _ ?_; clear hK1; refine ad [0, 1, 2] ?_; simp only [U, lkp, zE, reduceCtorEq, E, Y, D]
 refine Z fun K2 hK2 => ?_
 refine Z fun K3 hK3 => ?_
 refine ae hP hN rfl ?_
 (refine ab rfl fun K0 V => ?_; simp only [zE, op1, ev, lkp, ai, ag, ev, reduceCtorEq, E, D, J, S, M, O, Try.td3, Dfa.av]; refine V _ ?_; clear V K0; simp only [put, app, aa, af, zE, zS, D])
 refine ah ?_
 refine hK3 _ ?_; clear hK3; refine ad [0, 1, 2, 3] ?_; simp only [U, lkp, zE, reduceCtorEq, E, Y, D]
 refine aH ?_
 refine bj (fun n4 s4 => ∃ (k : Nat), (k ≤ d.nx.length) ∧ (∀ q, q < k → (d.nx.getD q []).length ≤ 6) ∧ (k ≤ 13) ∧ n4 = d.nx.length - k ∧ s4 = { env := [(1, .one (.ptr 0 0 0 0)), (2, .one (.bool false)), (3, .one (.int .i64 (k : Int)))], L := [.vars 25 [.int .i64 d.inp, .int .i64 d.st, .list (.list (.int .i64)) d.nx, .list .bool d.acc]] }) ?_ ?_
 ·exact ⟨_, _, aE [1, 2, 3], 0, Nat.zero_le _, fun q hq => by omega, by omega, rfl, rfl⟩
 ·rintro n4 s4 ⟨k, hk, hq, hk7, rfl, rfl⟩
  refine Z fun K5 hK5 => ?_
  refine Z fun K6 hK6 => ?_
  refine ae hP hN rfl ?_
  iterate 5 (refine ab rfl fun K0 V => ?_; simp only [zE, op1, ev, lkp, ai, ag, aw, ay, Nat.mul_one, au, ax, acs, Ty.dflt, zG, ao, aK, br, bf, aY, b0, bn, Nat.div_one, aP, ba, Ty.size, aM, dite_true, aC, aB, aD, ak, az, aO, reduceCtorEq, E, D, J, S, M, O, Try.el22, Try.st25, Try.td2, Try.td22, Try.td25, Try.td3, Try.td4, Dfa.av]; (repeat refine And.intro (by first | omega | assumption | exact rfl) ?_); (first | refine V _ ?_ | refine Or.inl (V _ ?_)); clear V K0; simp only [put, app, aa, af, zE, zS, D])
  (refine ab rfl fun K0 V => ?_; simp only [zE, op1, ev, lkp, ai, ag, ev, reduceCtorEq, E, D, J, S, M, O, Try.td4, Dfa.av]; refine V _ ?_; clear V K0; simp only [put, app, aa, af, zE, zS, D])
  refine' aU (want := true) 2 rfl (m := 9) (by simp only [U, lkp, zE, reduceCtorEq, E, Y, D]; exact rfl) (by kernel_rfl) rfl rfl rfl rfl rfl (fun hg7 => ?a7) ?b7 ?c7
  case a7 =>
   have hq7 := hg7; (try simp only [zB, reduceCtorEq] at hg7); simp only [List.take_succ_cons, List.take_zero, List.cons_append, List.nil_append]
   (refine aL rfl fun K0 V => ?_; simp only [zE, op1, ev, lkp, ai, ag, ev, reduceCtorEq, E, D, J, S, M, O, Try.td3, Dfa.av]; refine V _ ?_; clear V K0; simp only [put, app, aa, af, zE, zS, D])
   (refine aL rfl fun K0 V => ?_; simp only [zE, op1, ev, lkp, ai, ag, aC, aB, aD, ak, az, aO, reduceCtorEq, E, D, J, S, M, O, Try.td3, Try.td4, Dfa.av]; (repeat refine And.intro (by first | omega | assumption | exact rfl) ?_); refine V _ ?_; clear V K0; simp only [put, app, aa, af, zE, zS, D])
   (refine ab rfl fun K0 V => ?_; simp only [zE, op1, ev, lkp, ai, ag, bq, reduceCtorEq, E, D, J, S, M, O, Try.td4, Dfa.av]; refine V _ ?_; clear V K0; simp only [put, app, aa, af, zE, zS, D])
   refine ah ?_
   refine ⟨by simp only [U, lkp, zE, reduceCtorEq, E, Y, D]; exact rfl, rfl, ?_, rfl⟩; (repeat refine aV rfl ?_); exact bu (by exact rfl) hq7
  case b7 => exact bt (by first | rfl | (simp [c0]; done) | decide)
  simp only [bm, bb]
  refine ah ?_
  refine hK6 _ ?_; clear hK6; refine ad [1, 2, 3, 12] ?_; simp only [U, lkp, zE, reduceCtorEq, E, Y, D]
  refine aA (by simp only [ev, U, lkp, zE, reduceCtorEq, E, Y, D]; exact rfl) (fun hc8 => ?_) (fun hc8 => ?_)
  ·(try simp only [zB, reduceCtorEq] at hc8)
   refine aI ?_
   refine hK5 _ ?_; clear hK5; refine ad [1, 2, 3, 12] ?_; simp only [U, lkp, zE, reduceCtorEq, E, Y, D]
   refine Z fun K9 hK9 => ?_
   refine aH ?_
   refine Z fun K10 hK10 => ?_
   refine ae hP hN rfl ?_
   iterate 7 (refine ab rfl fun K0 V => ?_; simp only [zE, op1, ev, lkp, ai, ag, aw, ay, Nat.mul_one, au, ax, acs, Ty.dflt, zG, ao, aF, Ty.size, ne_eq, not_false_eq_true, Int.natCast_one, Int.mul_one, aK, br, bf, aY, b0, bn, Nat.div_one, aP, ba, aM, dite_true, aC, aB, aD, ak, az, aO, reduceCtorEq, E, D, J, S, M, O, Try.el22, Try.el26, Try.st25, Try.td2, Try.td22, Try.td25, Try.td26, Try.td3, Try.td4, Dfa.av]; (repeat refine And.intro (by first | omega | assumption | exact rfl) ?_); (first | refine V _ ?_ | refine Or.inl (V _ ?_)); clear V K0; simp only [put, app, aa, af, zE, zS, D])
   refine ah ?_
   refine hK10 _ ?_; clear hK10; refine ad [1, 2, 3, 12, 21] ?_; simp only [U, lkp, zE, reduceCtorEq, E, Y, D]
   refine aA (by simp only [ev, U, lkp, zE, reduceCtorEq, E, Y, D]; exact rfl) (fun hc11 => ?_) (fun hc11 => ?_)
   ·(try simp only [zB, reduceCtorEq] at hc11)
    refine Z fun K12 hK12 => ?_
    refine ae hP hN rfl ?_
    (refine ab rfl fun K0 V => ?_; simp only [zE, op1, ev, lkp, ai, ag, ev, reduceCtorEq, E, D, J, S, M, O, Try.td4, Dfa.av]; refine V _ ?_; clear V K0; simp only [put, app, aa, af, zE, zS, D])
    refine ah ?_
    refine hK12 _ ?_; clear hK12; refine ad [1, 2, 3, 12, 21] ?_; simp only [U, lkp, zE, reduceCtorEq, E, Y, D]
    refine aJ ?_
    refine ⟨by first | exact .inl rfl | exact .inr rfl, _, rfl, ?_⟩; simp only [fzV, fz1, fzC, List.map_cons, List.map_nil, U, lkp, zE, reduceCtorEq, E, Y, D, Dfa.av]
    refine VLE.of_eq ?_
    refine congrArg (fun b => AV.one (AC.bool b)) ?_
    symm
    first
    | exact qT (k := k) (by omega) (by omega) (by omega)
    | exact rO (k := k) (by omega) hq
   ·(try simp only [zB, reduceCtorEq] at hc11)
    refine aI ?_
    refine hK9 _ ?_; clear hK9; refine ad [1, 2, 3, 12, 21] ?_; simp only [U, lkp, zE, reduceCtorEq, E, Y, D]
    refine ae hP hN rfl ?_
    iterate 3 (refine ab rfl fun K0 V => ?_; simp only [zE, op1, ev, lkp, ai, ag, aC, aB, aD, ak, az, aO, reduceCtorEq, E, D, J, S, M, O, Try.td3, Dfa.av]; (repeat refine And.intro (by first | omega | assumption | exact rfl) ?_); refine V _ ?_; clear V K0; simp only [put, app, aa, af, zE, zS, D])
    refine ah ?_
    refine ⟨_, _, ?_, aE [1, 2, 3], k + 1, by omega, fun q hq2 => ?_, by omega, rfl, rfl⟩
    · omega
    · by_cases e : q = k
      · rw [e]; omega
      · exact hq q (by omega)
  ·(try simp only [zB, reduceCtorEq] at hc8)
   refine bg ?_
   refine hK2 _ ?_; clear hK2; refine ad [1, 2, 3, 12] ?_; simp only [U, lkp, zE, reduceCtorEq, E, Y, D]
   refine Z fun K13 hK13 => ?_
   refine ae hP hN rfl ?_
   iterate 4 (refine ab rfl fun K0 V => ?_; simp only [zE, op1, ev, lkp, ai, ag, aw, ay, Nat.mul_one, au, ax, acs, Ty.dflt, zG, ao, aK, br, bf, aY, b0, bn, Nat.div_one, aP, ba, Ty.size, aM, dite_true, aC, aB, aD, ak, az, aO, reduceCtorEq, E, D, J, S, M, O, Try.el22, Try.st25, Try.td2, Try.td22, Try.td25, Try.td3, Try.td4, Dfa.av]; (repeat refine And.intro (by first | omega | assumption | exact rfl) ?_); (first | refine V _ ?_ | refine Or.inl (V _ ?_)); clear V K0; simp only [put, app, aa, af, zE, zS, D])
   (refine ab rfl fun K0 V => ?_; simp only [zE, op1, ev, lkp, ai, ag, ev, reduceCtorEq, E, D, J, S, M, O, Try.td4, Dfa.av]; refine V _ ?_; clear V K0; simp only [put, app, aa, af, zE, zS, D])
   refine' aU (want := false) 4 rfl (m := 26) (by simp only [U, lkp, zE, reduceCtorEq, E, Y, D]; exact rfl) (by kernel_rfl) rfl rfl rfl rfl rfl (fun hg14 => ?a14) ?b14 ?c14
   case a14 =>
    have hq14 := hg14; (try simp only [zB, reduceCtorEq] at hg14); simp only [List.take_succ_cons, List.take_zero, List.cons_append, List.nil_append]
    (refine aL rfl fun K0 V => ?_; simp only [zE, op1, ev, lkp, ai, ag, aw, reduceCtorEq, E, D, J, S, M, O, Try.st25, Try.td25, Try.td3, Dfa.av]; (repeat refine And.intro (by first | omega | assumption | exact rfl) ?_); refine V _ ?_; clear V K0; simp only [put, app, aa, af, zE, zS, D])
    (refine aL rfl fun K0 V => ?_; simp only [zE, op1, ev, lkp, ai, ag, ay, Nat.mul_one, au, ax, acs, Ty.dflt, zG, ao, reduceCtorEq, E, D, J, S, M, O, Try.el23, Try.td23, Dfa.av]; (repeat refine And.intro (by first | omega | assumption | exact rfl) ?_); refine V _ ?_; clear V K0; simp only [put, app, aa, af, zE, zS, D])
    (refine aL rfl fun K0 V => ?_; simp only [zE, op1, ev, lkp, ai, ag, aK, br, bf, aY, b0, bn, Nat.div_one, aP, ba, Ty.size, aM, dite_true, reduceCtorEq, E, D, J, S, M, O, Try.el23, Try.td23, Try.td3, Dfa.av]; (repeat refine And.intro (by first | omega | assumption | exact rfl) ?_); (first | refine V _ ?_ | refine Or.inl (V _ ?_)); clear V K0; simp only [put, app, aa, af, zE, zS, D])
    (refine aL rfl fun K0 V => ?_; simp only [zE, op1, ev, lkp, ai, ag, aC, aB, aD, ak, az, aO, reduceCtorEq, E, D, J, S, M, O, Try.td3, Try.td4, Dfa.av]; (repeat refine And.intro (by first | omega | assumption | exact rfl) ?_); refine V _ ?_; clear V K0; simp only [put, app, aa, af, zE, zS, D])
    (refine ab rfl fun K0 V => ?_; simp only [zE, op1, ev, lkp, ai, ag, bq, reduceCtorEq, E, D, J, S, M, O, Try.td4, Dfa.av]; refine V _ ?_; clear V K0; simp only [put, app, aa, af, zE, zS, D])
    refine ah ?_
    refine ⟨by simp only [U, lkp, zE, reduceCtorEq, E, Y, D]; exact rfl, rfl, ?_, rfl⟩; (repeat refine aV rfl ?_); exact bu (by exact rfl) hq14
   case b14 => exact bt (by first | rfl | (simp [c0]; done) | decide)
   simp only [bm, bb]
   (refine ab rfl fun K0 V => ?_; simp only [zE, op1, ev, lkp, ai, ag, ev, reduceCtorEq, E, D, J, S, M, O, Try.td4, Dfa.av]; refine V _ ?_; clear V K0; simp only [put, app, aa, af, zE, zS, D])
   refine ah ?_
   refine hK13 _ ?_; clear hK13; refine ad [1, 2, 3, 12] ?_; simp only [U, lkp, zE, reduceCtorEq, E, Y, D]
   refine aJ ?_
   refine ⟨by first | exact .inl rfl | exact .inr rfl, _, rfl, ?_⟩; simp only [fzV, fz1, fzC, List.map_cons, List.map_nil, U, lkp, zE, reduceCtorEq, E, Y, D, Dfa.av]
   refine VLE.of_eq ?_
   refine congrArg (fun b => AV.one (AC.bool b)) ?_
   symm
   first
   | exact qT (k := k) (by omega) (by omega) (by omega)
   | exact rO (k := k) (by omega) hq
end Go.Proofs.Ytdkgcbhbpdbmnaa
namespace Go.Proofs.Ytdkgcbhbpdbmnaa
open Go Go.AV
open Nat renaming reduceEqDiff → E, reduceAdd → D, reduceLeDiff → J, reduceLT → S, reduceMul → M, reduceSub → O
open List renaming set_cons_zero → ar, set_cons_succ → aq
end Go.Proofs.Ytdkgcbhbpdbmnaa
namespace Go.Proofs.Ytdkgcbhbpdbmnaa
open Go Go.AV
open Nat renaming reduceEqDiff → E, reduceAdd → D, reduceLeDiff → J, reduceLT → S, reduceMul → M, reduceSub → O
open List renaming set_cons_zero → ar, set_cons_succ → aq
set_option maxRecDepth 100000 in
theorem tq (n : Int) : bH Try.prog 52 [.one (.int .i64 n)] (.one (.bool (decide (1 ≤ n) && decide (n ≤ 1024)))) := by
 refine aR Try.func52 rfl (by kernel_rfl) (Nat.le_of_ble_eq_true rfl) rfl fun C hP hN hB => ?_
 replace hN : C.N = 9 := hN
 simp only [Y, D]
 refine Z fun K1 hK1 => ?_
 refine ae hP hN rfl ?_
 (refine ab rfl fun K0 V => ?_; simp only [zE, op1, ev, lkp, ai, ag, ev, reduceCtorEq, E, D, J, S, M, O, Try.td4]; refine V _ ?_; clear V K0; simp only [put, app, aa, af, zE, zS, D])
 refine ah ?_
 refine hK1 _ ?_; clear hK1; refine ad [0, 2] ?_; simp only [U, lkp, zE, reduceCtorEq, E, Y, D]
 refine Z fun K2 hK2 => ?_
 refine ae hP hN rfl ?_
 iterate 2 (refine ab rfl fun K0 V => ?_; simp only [zE, op1, ev, lkp, ai, ag, aC, aB, aD, ak, az, aO, reduceCtorEq, E, D, J, S, M, O, Try.td3, Try.td4]; (repeat refine And.intro (by first | omega | assumption | exact rfl) ?_); refine V _ ?_; clear V K0; simp only [put, app, aa, af, zE, zS, D])
 (refine ab rfl fun K0 V => ?_; simp only [zE, op1, ev, lkp, ai, ag, ev, reduceCtorEq, E, D, J, S, M, O, Try.td4]; refine V _ ?_; clear V K0; simp only [put, app, aa, af, zE, zS, D])
 refine' aU (want := true) 2 rfl (m := 5) (by simp only [U, lkp, zE, reduceCtorEq, E, Y, D]; exact rfl) (by kernel_rfl) rfl rfl rfl rfl rfl (fun hg3 => ?a3) ?b3 ?c3
 case a3 =>
  have hq3 := hg3; (try simp only [zB, reduceCtorEq] at hg3); simp only [List.take_succ_cons, List.take_zero, List.cons_append, List.nil_append]
  (refine aL rfl fun K0 V => ?_; simp only [zE, op1, ev, lkp, ai, ag, ev, reduceCtorEq, E, D, J, S, M, O, Try.td3]; refine V _ ?_; clear V K0; simp only [put, app, aa, af, zE, zS, D])
  (refine aL rfl fun K0 V => ?_; simp only [zE, op1, ev, lkp, ai, ag, aC, aB, aD, ak, az, aO, reduceCtorEq, E, D, J, S, M, O, Try.td3, Try.td4]; (repeat refine And.intro (by first | omega | assumption | exact rfl) ?_); refine V _ ?_; clear V K0; simp only [put, app, aa, af, zE, zS, D])
  (refine ab rfl fun K0 V => ?_; simp only [zE, op1, ev, lkp, ai, ag, bq, reduceCtorEq, E, D, J, S, M, O, Try.td4]; refine V _ ?_; clear V K0; simp only [put, app, aa, af, zE, zS, D])
  refine ah ?_
  refine ⟨by simp only [U, lkp, zE, reduceCtorEq, E, Y, D]; exact rfl, rfl, ?_, rfl⟩; (repeat refine aV rfl ?_); exact bu (by exact rfl) hq3
 case b3 => exact bt (by first | rfl | (simp [c0]; done) | decide)
 simp only [bm, bb]
 (refine ab rfl fun K0 V => ?_; simp only [zE, op1, ev, lkp, ai, ag, ev, reduceCtorEq, E, D, J, S, M, O, Try.td4]; refine V _ ?_; clear V K0; simp only [put, app, aa, af, zE, zS, D])
 refine ah ?_
 refine hK2 _ ?_; clear hK2; refine ad [0, 2] ?_; simp only [U, lkp, zE, reduceCtorEq, E, Y, D]
 refine aJ ?_
 refine ⟨by first | exact .inl rfl | exact .inr rfl, _, rfl, ?_⟩; simp only [fzV, fz1, fzC, List.map_cons, List.map_nil, U, lkp, zE, reduceCtorEq, E, Y, D]
 refine VLE.of_eq ?_
 rfl
end Go.Proofs.Ytdkgcbhbpdbmnaa
namespace Go.Proofs.Ytdkgcbhbpdbmnaa
open Go Go.AV
open Nat renaming reduceEqDiff → E, reduceAdd → D, reduceLeDiff → J, reduceLT → S, reduceMul → M, reduceSub → O
open List renaming set_cons_zero → ar, set_cons_succ → aq
set_option maxRecDepth 100000 in
theorem ec (d : Dfa) : bH Try.prog 19 [d.av] (.one (.int .i64 (bc d))) := by
 refine aR Try.func19 rfl (by kernel_rfl) (Nat.le_of_ble_eq_true rfl) rfl fun C hP hN hB => ?_
 replace hN : C.N = 77 := hN
 simp only [Y, D]
 refine Z fun K1 hK1 => ?_
 refine ae hP hN rfl ?_
 iterate 2 (refine ab rfl fun K0 V => ?_; simp only [zE, op1, ev, lkp, ai, ag, ch, am, reduceCtorEq, E, D, J, S, M, O, Try.st25, Try.td25, Try.td3, Dfa.av]; (repeat refine And.intro (by first | omega | assumption | exact rfl) ?_); refine V _ ?_; clear V K0; simp only [put, app, aa, af, zE, zS, D])
 refine ah ?_
 refine hK1 _ ?_; clear hK1; refine ad [0, 1, 2] ?_; simp only [U, lkp, zE, reduceCtorEq, E, Y, D]
 refine Z fun K2 hK2 => ?_
 refine ae hP hN rfl ?_
 iterate 4 (refine ab rfl fun K0 V => ?_; simp only [zE, op1, ev, lkp, ai, ag, aw, ay, Nat.mul_one, au, ax, acs, Ty.dflt, zG, ao, aK, br, bf, aY, b0, bn, Nat.div_one, aP, ba, Ty.size, aM, dite_true, reduceCtorEq, E, D, J, S, M, O, Try.el22, Try.st25, Try.td2, Try.td22, Try.td25, Try.td3, Dfa.av]; (repeat refine And.intro (by first | omega | assumption | exact rfl) ?_); (first | refine V _ ?_ | refine Or.inl (V _ ?_)); clear V K0; simp only [put, app, aa, af, zE, zS, D])
 refine ah ?_
 refine hK2 _ ?_; clear hK2; refine ad [0, 1, 2, 3] ?_; simp only [U, lkp, zE, reduceCtorEq, E, Y, D]
 refine Z fun K3 hK3 => ?_
 refine aH ?_
 refine Z fun K4 hK4 => ?_
 refine ae hP hN rfl ?_
 iterate 2 (refine ab rfl fun K0 V => ?_; simp only [zE, op1, ev, lkp, ai, ag, aw, ay, Nat.mul_one, au, ax, acs, Ty.dflt, zG, ao, reduceCtorEq, E, D, J, S, M, O, Try.st25, Try.td25, Try.td3, Dfa.av]; (repeat refine And.intro (by first | omega | assumption | exact rfl) ?_); refine V _ ?_; clear V K0; simp only [put, app, aa, af, zE, zS, D])
 refine ab rfl fun K0 V => ?_
 refine aS (h := aG (tq d.inp)) rfl rfl (by first | exact rfl | (simp only [ev, U, lkp, zE, reduceCtorEq, E, Y, D]; exact rfl)) (by simp only [zE, zG, op1, ev, lkp, ai, ag, am, acs, be, mv1, mvC, Ty.dflt, reduceCtorEq, E, D, J, S, M, O, Dfa.av]) ?_
 refine V _ ?_; clear V K0; simp only [put, app, aa, af, zE, zS, D]
 iterate 2 (refine ab rfl fun K0 V => ?_; simp only [zE, op1, ev, lkp, ai, ag, gb, reduceCtorEq, E, D, J, S, M, O, Try.td4, Dfa.av]; (repeat refine And.intro (by first | omega | assumption | exact rfl) ?_); refine V _ ?_; clear V K0; simp only [put, app, aa, af, zE, zS, D])
 refine ah ?_
 refine hK4 _ ?_; clear hK4; refine ad [0, 1, 2, 3, 9] ?_; simp only [U, lkp, zE, reduceCtorEq, E, Y, D]
 refine aA (by simp only [ev, U, lkp, zE, reduceCtorEq, E, Y, D]; exact rfl) (fun hc5 => ?_) (fun hc5 => ?_)
 ·(try simp only [zB, reduceCtorEq] at hc5)
  refine Z fun K6 hK6 => ?_
  refine ae hP hN rfl ?_
  (refine ab rfl fun K0 V => ?_; simp only [zE, op1, ev, lkp, ai, ag, ev, reduceCtorEq, E, D, J, S, M, O, Try.td3, Dfa.av]; refine V _ ?_; clear V K0; simp only [put, app, aa, af, zE, zS, D])
  refine ah ?_
  refine hK6 _ ?_; clear hK6; refine ad [0, 1, 2, 3, 9] ?_; simp only [U, lkp, zE, reduceCtorEq, E, Y, D]
  refine aJ ?_
  refine ⟨by first | exact .inl rfl | exact .inr rfl, _, rfl, ?_⟩; simp only [fzV, fz1, fzC, List.map_cons, List.map_nil, U, lkp, zE, reduceCtorEq, E, Y, D, Dfa.av]
  refine VLE.of_eq ?_
  refine congrArg (fun n => AV.one (AC.int IntKind.i64 n)) ?_
  unfold bc
  symm
  first
  | (rw [if_pos (by omega)]; done)
  | (rw [if_neg (by omega), if_pos (by omega)]; done)
  | (rw [if_neg (by omega), if_neg (by omega), if_pos (by omega)]; done)
  | (rw [if_neg (by omega), if_neg (by omega), if_neg (by omega), if_pos (by omega)]; done)
  | (rw [if_neg (by omega), if_neg (by omega), if_neg (by omega), if_neg (by omega), if_pos (by omega)]; done)
  | (rw [if_neg (by omega), if_neg (by omega), if_neg (by omega), if_neg (by omega), if_neg (by omega)]
     first
     | exact (aT hrows (by omega) (by rw [ck hl9]; decide)).trans (ck hl9)
     | exact (aT hrows (by omega) (by rw [ci hl9 hb9]; decide)).trans (ci hl9 hb9)
     | exact (aT hrows (by omega) (by rw [bP hl9 hj9 hb9 hcells]; decide)).trans (bP hl9 hj9 hb9 hcells)
     | exact bE fun i hi => hrows i (by omega))
 ·(try simp only [zB, reduceCtorEq] at hc5)
  refine Z fun K7 hK7 => ?_
  refine ae hP hN rfl ?_
  iterate 3 (refine ab rfl fun K0 V => ?_; simp only [zE, op1, ev, lkp, ai, ag, aC, aB, aD, ak, az, aO, reduceCtorEq, E, D, J, S, M, O, Try.td3, Try.td4, Dfa.av]; (repeat refine And.intro (by first | omega | assumption | exact rfl) ?_); refine V _ ?_; clear V K0; simp only [put, app, aa, af, zE, zS, D])
  refine ah ?_
  refine hK7 _ ?_; clear hK7; refine ad [0, 1, 2, 3, 9, 14] ?_; simp only [U, lkp, zE, reduceCtorEq, E, Y, D]
  refine aA (by simp only [ev, U, lkp, zE, reduceCtorEq, E, Y, D]; exact rfl) (fun hc8 => ?_) (fun hc8 => ?_)
  ·(try simp only [zB, reduceCtorEq] at hc8)
   refine Z fun K9 hK9 => ?_
   refine ae hP hN rfl ?_
   (refine ab rfl fun K0 V => ?_; simp only [zE, op1, ev, lkp, ai, ag, ev, reduceCtorEq, E, D, J, S, M, O, Try.td3, Dfa.av]; refine V _ ?_; clear V K0; simp only [put, app, aa, af, zE, zS, D])
   refine ah ?_
   refine hK9 _ ?_; clear hK9; refine ad [0, 1, 2, 3, 9, 14] ?_; simp only [U, lkp, zE, reduceCtorEq, E, Y, D]
   refine aJ ?_
   refine ⟨by first | exact .inl rfl | exact .inr rfl, _, rfl, ?_⟩; simp only [fzV, fz1, fzC, List.map_cons, List.map_nil, U, lkp, zE, reduceCtorEq, E, Y, D, Dfa.av]
   refine VLE.of_eq ?_
   refine congrArg (fun n => AV.one (AC.int IntKind.i64 n)) ?_
   unfold bc
   symm
   first
   | (rw [if_pos (by omega)]; done)
   | (rw [if_neg (by omega), if_pos (by omega)]; done)
   | (rw [if_neg (by omega), if_neg (by omega), if_pos (by omega)]; done)
   | (rw [if_neg (by omega), if_neg (by omega), if_neg (by omega), if_pos (by omega)]; done)
   | (rw [if_neg (by omega), if_neg (by omega), if_neg (by omega), if_neg (by omega), if_pos (by omega)]; done)
   | (rw [if_neg (by omega), if_neg (by omega), if_neg (by omega), if_neg (by omega), if_neg (by omega)]
      first
      | exact (aT hrows (by omega) (by rw [ck hl9]; decide)).trans (ck hl9)
      | exact (aT hrows (by omega) (by rw [ci hl9 hb9]; decide)).trans (ci hl9 hb9)
      | exact (aT hrows (by omega) (by rw [bP hl9 hj9 hb9 hcells]; decide)).trans (bP hl9 hj9 hb9 hcells)
      | exact bE fun i hi => hrows i (by omega))
  ·(try simp only [zB, reduceCtorEq] at hc8)
   refine Z fun K10 hK10 => ?_
   refine ae hP hN rfl ?_
   iterate 3 (refine ab rfl fun K0 V => ?_; simp only [zE, op1, ev, lkp, ai, ag, aC, aB, aD, ak, az, aO, reduceCtorEq, E, D, J, S, M, O, Try.td3, Try.td4, Dfa.av]; (repeat refine And.intro (by first | omega | assumption | exact rfl) ?_); refine V _ ?_; clear V K0; simp only [put, app, aa, af, zE, zS, D])
   refine ah ?_
   refine hK10 _ ?_; clear hK10; refine ad [0, 1, 2, 3, 9, 14, 17] ?_; simp only [U, lkp, zE, reduceCtorEq, E, Y, D]
   refine aA (by simp only [ev, U, lkp, zE, reduceCtorEq, E, Y, D]; exact rfl) (fun hc11 => ?_) (fun hc11 => ?_)
   ·(try simp only [zB, reduceCtorEq] at hc11)
    refine Z fun K12 hK12 => ?_
    refine ae hP hN rfl ?_
    (refine ab rfl fun K0 V => ?_; simp only [zE, op1, ev, lkp, ai, ag, ev, reduceCtorEq, E, D, J, S, M, O, Try.td3, Dfa.av]; refine V _ ?_; clear V K0; simp only [put, app, aa, af, zE, zS, D])
    refine ah ?_
    refine hK12 _ ?_; clear hK12; refine ad [0, 1, 2, 3, 9, 14, 17] ?_; simp only [U, lkp, zE, reduceCtorEq, E, Y, D]
    refine aJ ?_
    refine ⟨by first | exact .inl rfl | exact .inr rfl, _, rfl, ?_⟩; simp only [fzV, fz1, fzC, List.map_cons, List.map_nil, U, lkp, zE, reduceCtorEq, E, Y, D, Dfa.av]
    refine VLE.of_eq ?_
    refine congrArg (fun n => AV.one (AC.int IntKind.i64 n)) ?_
    unfold bc
    symm
    first
    | (rw [if_pos (by omega)]; done)
    | (rw [if_neg (by omega), if_pos (by omega)]; done)
    | (rw [if_neg (by omega), if_neg (by omega), if_pos (by omega)]; done)
    | (rw [if_neg (by omega), if_neg (by omega), if_neg (by omega), if_pos (by omega)]; done)
    | (rw [if_neg (by omega), if_neg (by omega), if_neg (by omega), if_neg (by omega), if_pos (by omega)]; done)
    | (rw [if_neg (by omega), if_neg (by omega), if_neg (by omega), if_neg (by omega), if_neg (by omega)]
       first
       | exact (aT hrows (by omega) (by rw [ck hl9]; decide)).trans (ck hl9)
       | exact (aT hrows (by omega) (by rw [ci hl9 hb9]; decide)).trans (ci hl9 hb9)
       | exact (aT hrows (by omega) (by rw [bP hl9 hj9 hb9 hcells]; decide)).trans (bP hl9 hj9 hb9 hcells)
       | exact bE fun i hi => hrows i (by omega))
   ·(try simp only [zB, reduceCtorEq] at hc11)
    refine Z fun K13 hK13 => ?_
    refine ae hP hN rfl ?_
    iterate 3 (refine ab rfl fun K0 V => ?_; simp only [zE, op1, ev, lkp, ai, ag, aw, ay, Nat.mul_one, au, ax, acs, Ty.dflt, zG, ao, aC, aB, aD, ak, az, aO, reduceCtorEq, E, D, J, S, M, O, Try.st25, Try.td1, Try.td25, Try.td3, Try.td4, Dfa.av]; (repeat refine And.intro (by first | omega | assumption | exact rfl) ?_); refine V _ ?_; clear V K0; simp only [put, app, aa, af, zE, zS, D])
    (refine ab rfl fun K0 V => ?_; simp only [zE, op1, ev, lkp, ai, ag, ev, reduceCtorEq, E, D, J, S, M, O, Try.td4, Dfa.av]; refine V _ ?_; clear V K0; simp only [put, app, aa, af, zE, zS, D])
    refine' aU (want := false) 4 rfl (m := 24) (by simp only [U, lkp, zE, reduceCtorEq, E, Y, D]; exact rfl) (by kernel_rfl) rfl rfl rfl rfl rfl (fun hg14 => ?a14) ?b14 ?c14
    case a14 =>
     have hq14 := hg14; (try simp only [zB, reduceCtorEq] at hg14); simp only [List.take_succ_cons, List.take_zero, List.cons_append, List.nil_append]
     (refine aL rfl fun K0 V => ?_; simp only [zE, op1, ev, lkp, ai, ag, aw, reduceCtorEq, E, D, J, S, M, O, Try.st25, Try.td1, Try.td25, Dfa.av]; (repeat refine And.intro (by first | omega | assumption | exact rfl) ?_); refine V _ ?_; clear V K0; simp only [put, app, aa, af, zE, zS, D])
     (refine aL rfl fun K0 V => ?_; simp only [zE, op1, ev, lkp, ai, ag, ay, Nat.mul_one, au, ax, acs, Ty.dflt, zG, ao, reduceCtorEq, E, D, J, S, M, O, Try.td3, Dfa.av]; (repeat refine And.intro (by first | omega | assumption | exact rfl) ?_); refine V _ ?_; clear V K0; simp only [put, app, aa, af, zE, zS, D])
     (refine aL rfl fun K0 V => ?_; simp only [zE, op1, ev, lkp, ai, ag, ev, reduceCtorEq, E, D, J, S, M, O, Try.td3, Dfa.av]; refine V _ ?_; clear V K0; simp only [put, app, aa, af, zE, zS, D])
     (refine aL rfl fun K0 V => ?_; simp only [zE, op1, ev, lkp, ai, ag, aC, aB, aD, ak, az, aO, reduceCtorEq, E, D, J, S, M, O, Try.td3, Try.td4, Dfa.av]; (repeat refine And.intro (by first | omega | assumption | exact rfl) ?_); refine V _ ?_; clear V K0; simp only [put, app, aa, af, zE, zS, D])
     (refine ab rfl fun K0 V => ?_; simp only [zE, op1, ev, lkp, ai, ag, bq, reduceCtorEq, E, D, J, S, M, O, Try.td4, Dfa.av]; refine V _ ?_; clear V K0; simp only [put, app, aa, af, zE, zS, D])
     refine ah ?_
     refine ⟨by simp only [U, lkp, zE, reduceCtorEq, E, Y, D]; exact rfl, rfl, ?_, rfl⟩; (repeat refine aV rfl ?_); exact bu (by exact rfl) hq14
    case b14 => exact bt (by first | rfl | (simp [c0]; done) | decide)
    simp only [bm, bb]
    (refine ab rfl fun K0 V => ?_; simp only [zE, op1, ev, lkp, ai, ag, ev, reduceCtorEq, E, D, J, S, M, O, Try.td4, Dfa.av]; refine V _ ?_; clear V K0; simp only [put, app, aa, af, zE, zS, D])
    refine ah ?_
    refine hK13 _ ?_; clear hK13; refine ad [0, 1, 2, 3, 9, 14, 17, 20] ?_; simp only [U, lkp, zE, reduceCtorEq, E, Y, D]
    refine aA (by simp only [ev, U, lkp, zE, reduceCtorEq, E, Y, D]; exact rfl) (fun hc15 => ?_) (fun hc15 => ?_)
    ·(try simp only [zB, reduceCtorEq] at hc15)
     refine Z fun K16 hK16 => ?_
     refine ae hP hN rfl ?_
     (refine ab rfl fun K0 V => ?_; simp only [zE, op1, ev, lkp, ai, ag, ev, reduceCtorEq, E, D, J, S, M, O, Try.td3, Dfa.av]; refine V _ ?_; clear V K0; simp only [put, app, aa, af, zE, zS, D])
     refine ah ?_
     refine hK16 _ ?_; clear hK16; refine ad [0, 1, 2, 3, 9, 14, 17, 20] ?_; simp only [U, lkp, zE, reduceCtorEq, E, Y, D]
     refine aJ ?_
     refine ⟨by first | exact .inl rfl | exact .inr rfl, _, rfl, ?_⟩; simp only [fzV, fz1, fzC, List.map_cons, List.map_nil, U, lkp, zE, reduceCtorEq, E, Y, D, Dfa.av]
     refine VLE.of_eq ?_
     refine congrArg (fun n => AV.one (AC.int IntKind.i64 n)) ?_
     unfold bc
     symm
     first
     | (rw [if_pos (by omega)]; done)
     | (rw [if_neg (by omega), if_pos (by omega)]; done)
     | (rw [if_neg (by omega), if_neg (by omega), if_pos (by omega)]; done)
     | (rw [if_neg (by omega), if_neg (by omega), if_neg (by omega), if_pos (by omega)]; done)
     | (rw [if_neg (by omega), if_neg (by omega), if_neg (by omega), if_neg (by omega), if_pos (by omega)]; done)
     | (rw [if_neg (by omega), if_neg (by omega), if_neg (by omega), if_neg (by omega), if_neg (by omega)]
        first
        | exact (aT hrows (by omega) (by rw [ck hl9]; decide)).trans (ck hl9)
        | exact (aT hrows (by omega) (by rw [ci hl9 hb9]; decide)).trans (ci hl9 hb9)
        | exact (aT hrows (by omega) (by rw [bP hl9 hj9 hb9 hcells]; decide)).trans (bP hl9 hj9 hb9 hcells)
        | exact bE fun i hi => hrows i (by omega))
    ·(try simp only [zB, reduceCtorEq] at hc15)
     refine Z fun K17 hK17 => ?_
     refine ae hP hN rfl ?_
     iterate 6 (refine ab rfl fun K0 V => ?_; simp only [zE, op1, ev, lkp, ai, ag, aw, ay, Nat.mul_one, au, ax, acs, Ty.dflt, zG, ao, aK, br, bf, aY, b0, bn, Nat.div_one, aP, ba, Ty.size, aM, dite_true, aC, aB, aD, ak, az, aO, reduceCtorEq, E, D, J, S, M, O, Try.el23, Try.st25, Try.td23, Try.td25, Try.td3, Try.td4, Dfa.av]; (repeat refine And.intro (by first | omega | assumption | exact rfl) ?_); (first | refine V _ ?_ | refine Or.inl (V _ ?_)); clear V K0; simp only [put, app, aa, af, zE, zS, D])
     refine ah ?_
     refine hK17 _ ?_; clear hK17; refine ad [0, 1, 2, 3, 9, 14, 17, 20, 30] ?_; simp only [U, lkp, zE, reduceCtorEq, E, Y, D]
     refine aA (by simp only [ev, U, lkp, zE, reduceCtorEq, E, Y, D]; exact rfl) (fun hc18 => ?_) (fun hc18 => ?_)
     ·(try simp only [zB, reduceCtorEq] at hc18)
      refine Z fun K19 hK19 => ?_
      refine ae hP hN rfl ?_
      (refine ab rfl fun K0 V => ?_; simp only [zE, op1, ev, lkp, ai, ag, ev, reduceCtorEq, E, D, J, S, M, O, Try.td3, Dfa.av]; refine V _ ?_; clear V K0; simp only [put, app, aa, af, zE, zS, D])
      refine ah ?_
      refine hK19 _ ?_; clear hK19; refine ad [0, 1, 2, 3, 9, 14, 17, 20, 30] ?_; simp only [U, lkp, zE, reduceCtorEq, E, Y, D]
      refine aJ ?_
      refine ⟨by first | exact .inl rfl | exact .inr rfl, _, rfl, ?_⟩; simp only [fzV, fz1, fzC, List.map_cons, List.map_nil, U, lkp, zE, reduceCtorEq, E, Y, D, Dfa.av]
      refine VLE.of_eq ?_
      refine congrArg (fun n => AV.one (AC.int IntKind.i64 n)) ?_
      unfold bc
      symm
      first
      | (rw [if_pos (by omega)]; done)
      | (rw [if_neg (by omega), if_pos (by omega)]; done)
      | (rw [if_neg (by omega), if_neg (by omega), if_pos (by omega)]; done)
      | (rw [if_neg (by omega), if_neg (by omega), if_neg (by omega), if_pos (by omega)]; done)
      | (rw [if_neg (by omega), if_neg (by omega), if_neg (by omega), if_neg (by omega), if_pos (by omega)]; done)
      | (rw [if_neg (by omega), if_neg (by omega), if_neg (by omega), if_neg (by omega), if_neg (by omega)]
         first
         | exact (aT hrows (by omega) (by rw [ck hl9]; decide)).trans (ck hl9)
         | exact (aT hrows (by omega) (by rw [ci hl9 hb9]; decide)).trans (ci hl9 hb9)
         | exact (aT hrows (by omega) (by rw [bP hl9 hj9 hb9 hcells]; decide)).trans (bP hl9 hj9 hb9 hcells)
         | exact bE fun i hi => hrows i (by omega))
     ·(try simp only [zB, reduceCtorEq] at hc18)
      refine aI ?_
      refine hK3 _ ?_; clear hK3; refine ad [0, 1, 2, 3, 9, 14, 17, 20, 30] ?_; simp only [U, lkp, zE, reduceCtorEq, E, Y, D]
      refine Z fun K20 hK20 => ?_
      refine Z fun K21 hK21 => ?_
      refine ae hP hN rfl ?_
      (refine ab rfl fun K0 V => ?_; simp only [zE, op1, ev, lkp, ai, ag, ev, reduceCtorEq, E, D, J, S, M, O, Try.td3, Dfa.av]; refine V _ ?_; clear V K0; simp only [put, app, aa, af, zE, zS, D])
      refine ah ?_
      refine hK21 _ ?_; clear hK21; refine ad [0, 1, 2, 3, 4, 9, 14, 17, 20, 30] ?_; simp only [U, lkp, zE, reduceCtorEq, E, Y, D]
      refine aH ?_
      refine bj (fun n22 s22 => ∃ (k : Nat), (k ≤ d.nx.length) ∧ (∀ i, i < k → gc d i = 0) ∧ n22 = d.nx.length - k ∧ s22 = { env := [(1, .one (.ptr 0 0 0 0)), (2, .one (.int .i64 0)), (3, .one (.int .i64 (d.nx.length : Int))), (4, .one (.int .i64 (k : Int)))], L := [.vars 25 [.int .i64 d.inp, .int .i64 d.st, .list (.list (.int .i64)) d.nx, .list .bool d.acc]] }) ?_ ?_
      ·exact ⟨_, _, aE [1, 2, 3, 4], 0, Nat.zero_le _, fun i hi => by omega, rfl, rfl⟩
      ·rintro n22 s22 ⟨k, hk, hrows, rfl, rfl⟩
       refine Z fun K23 hK23 => ?_
       refine Z fun K24 hK24 => ?_
       refine ae hP hN rfl ?_
       iterate 3 (refine ab rfl fun K0 V => ?_; simp only [zE, op1, ev, lkp, ai, ag, aC, aB, aD, ak, az, aO, reduceCtorEq, E, D, J, S, M, O, Try.td3, Try.td4, Dfa.av]; (repeat refine And.intro (by first | omega | assumption | exact rfl) ?_); refine V _ ?_; clear V K0; simp only [put, app, aa, af, zE, zS, D])
       refine ah ?_
       refine hK24 _ ?_; clear hK24; refine ad [1, 2, 3, 4, 38] ?_; simp only [U, lkp, zE, reduceCtorEq, E, Y, D]
       refine aA (by simp only [ev, U, lkp, zE, reduceCtorEq, E, Y, D]; exact rfl) (fun hc25 => ?_) (fun hc25 => ?_)
       ·(try simp only [zB, reduceCtorEq] at hc25)
        refine aI ?_
        refine hK23 _ ?_; clear hK23; refine ad [1, 2, 3, 4, 38] ?_; simp only [U, lkp, zE, reduceCtorEq, E, Y, D]
        refine Z fun K26 hK26 => ?_
        refine aH ?_
        refine Z fun K27 hK27 => ?_
        refine Z fun K28 hK28 => ?_
        refine bY hP hN Try.mixed rfl ?_
        iterate 9 (refine ab rfl fun K0 V => ?_; simp only [zE, op1, ev, lkp, ai, ag, aw, ay, Nat.mul_one, au, ax, acs, Ty.dflt, zG, ao, aF, Ty.size, ne_eq, not_false_eq_true, Int.natCast_one, Int.mul_one, aK, br, bf, aY, b0, bn, Nat.div_one, aP, ba, aM, dite_true, aC, aB, aD, ak, az, aO, reduceCtorEq, E, D, J, S, M, O, Try.el22, Try.el26, Try.st25, Try.td2, Try.td22, Try.td25, Try.td26, Try.td3, Try.td4, Dfa.av]; (repeat refine And.intro (by first | omega | assumption | exact rfl) ?_); (first | refine V _ ?_ | refine Or.inl (V _ ?_)); clear V K0; simp only [put, app, aa, af, zE, zS, D])
        refine ah ?_
        refine ⟨by kernel_rfl, ?_⟩
        refine hK28 _ ?_; clear hK28; refine ad [1, 2, 3, 4, 38, 49] ?_; simp only [U, lkp, zE, reduceCtorEq, E, Y, D]
        refine aA (by simp only [ev, U, lkp, zE, reduceCtorEq, E, Y, D]; exact rfl) (fun hc29 => ?_) (fun hc29 => ?_)
        ·(try simp only [zB, reduceCtorEq] at hc29)
         have hl9 : ¬ ((d.row k).length : Int) = d.inp := hc29
         refine Z fun K30 hK30 => ?_
         refine ae hP hN rfl ?_
         (refine ab rfl fun K0 V => ?_; simp only [zE, op1, ev, lkp, ai, ag, ev, reduceCtorEq, E, D, J, S, M, O, Try.td3, Dfa.av]; refine V _ ?_; clear V K0; simp only [put, app, aa, af, zE, zS, D])
         refine ah ?_
         refine hK30 _ ?_; clear hK30; refine ad [1, 2, 3, 4, 38, 49] ?_; simp only [U, lkp, zE, reduceCtorEq, E, Y, D]
         refine aJ ?_
         refine ⟨by first | exact .inl rfl | exact .inr rfl, _, rfl, ?_⟩; simp only [fzV, fz1, fzC, List.map_cons, List.map_nil, U, lkp, zE, reduceCtorEq, E, Y, D, Dfa.av]
         refine VLE.of_eq ?_
         refine congrArg (fun n => AV.one (AC.int IntKind.i64 n)) ?_
         unfold bc
         symm
         first
         | (rw [if_pos (by omega)]; done)
         | (rw [if_neg (by omega), if_pos (by omega)]; done)
         | (rw [if_neg (by omega), if_neg (by omega), if_pos (by omega)]; done)
         | (rw [if_neg (by omega), if_neg (by omega), if_neg (by omega), if_pos (by omega)]; done)
         | (rw [if_neg (by omega), if_neg (by omega), if_neg (by omega), if_neg (by omega), if_pos (by omega)]; done)
         | (rw [if_neg (by omega), if_neg (by omega), if_neg (by omega), if_neg (by omega), if_neg (by omega)]
            first
            | exact (aT hrows (by omega) (by rw [ck hl9]; decide)).trans (ck hl9)
            | exact (aT hrows (by omega) (by rw [ci hl9 hb9]; decide)).trans (ci hl9 hb9)
            | exact (aT hrows (by omega) (by rw [bP hl9 hj9 hb9 hcells]; decide)).trans (bP hl9 hj9 hb9 hcells)
            | exact bE fun i hi => hrows i (by omega))
        ·(try simp only [zB, reduceCtorEq] at hc29)
         have hl9 : ((d.row k).length : Int) = d.inp := by have h9 := hc29; unfold Dfa.row; rw [Int.toNat_natCast]; omega
         refine aI ?_
         refine hK27 _ ?_; clear hK27; refine ad [1, 2, 3, 4, 38, 49] ?_; simp only [U, lkp, zE, reduceCtorEq, E, Y, D]
         refine Z fun K31 hK31 => ?_
         refine ae hP hN rfl ?_
         (refine ab rfl fun K0 V => ?_; simp only [zE, op1, ev, lkp, ai, ag, ev, reduceCtorEq, E, D, J, S, M, O, Try.td3, Dfa.av]; refine V _ ?_; clear V K0; simp only [put, app, aa, af, zE, zS, D])
         refine ah ?_
         refine hK31 _ ?_; clear hK31; refine ad [1, 2, 3, 4, 5, 38, 49] ?_; simp only [U, lkp, zE, reduceCtorEq, E, Y, D]
         refine aH ?_
         refine bj (fun n32 s32 => ∃ (j : Nat), ((j : Int) ≤ d.inp) ∧ (∀ a, a < j → ¬ d.cb k a) ∧ n32 = d.inp.toNat - j ∧ s32 = { env := [(1, .one (.ptr 0 0 0 0)), (2, .one (.int .i64 0)), (3, .one (.int .i64 (d.nx.length : Int))), (4, .one (.int .i64 (k : Int))), (5, .one (.int .i64 (j : Int)))], L := [.vars 25 [.int .i64 d.inp, .int .i64 d.st, .list (.list (.int .i64)) d.nx, .list .bool d.acc]] }) ?_ ?_
         ·exact ⟨_, _, aE [1, 2, 3, 4, 5], 0, by omega, fun i hi => by omega, rfl, rfl⟩
         ·rintro n32 s32 ⟨j, hj, hcells, rfl, rfl⟩
          refine Z fun K33 hK33 => ?_
          refine Z fun K34 hK34 => ?_
          refine ae hP hN rfl ?_
          iterate 4 (refine ab rfl fun K0 V => ?_; simp only [zE, op1, ev, lkp, ai, ag, aw, ay, Nat.mul_one, au, ax, acs, Ty.dflt, zG, ao, aC, aB, aD, ak, az, aO, reduceCtorEq, E, D, J, S, M, O, Try.st25, Try.td25, Try.td3, Try.td4, Dfa.av]; (repeat refine And.intro (by first | omega | assumption | exact rfl) ?_); refine V _ ?_; clear V K0; simp only [put, app, aa, af, zE, zS, D])
          refine ah ?_
          refine hK34 _ ?_; clear hK34; refine ad [1, 2, 3, 4, 5, 53] ?_; simp only [U, lkp, zE, reduceCtorEq, E, Y, D]
          refine aA (by simp only [ev, U, lkp, zE, reduceCtorEq, E, Y, D]; exact rfl) (fun hc35 => ?_) (fun hc35 => ?_)
          ·(try simp only [zB, reduceCtorEq] at hc35)
           refine aI ?_
           refine hK33 _ ?_; clear hK33; refine ad [1, 2, 3, 4, 5, 53] ?_; simp only [U, lkp, zE, reduceCtorEq, E, Y, D]
           refine Z fun K36 hK36 => ?_
           refine aH ?_
           refine Z fun K37 hK37 => ?_
           have hrl9 : (d.nx.getD k []).length = d.inp.toNat := by have h9 := hl9; unfold Dfa.row at h9; rw [Int.toNat_natCast] at h9; omega
           refine ae hP hN rfl ?_
           iterate 9 (refine ab rfl fun K0 V => ?_; simp only [zE, op1, ev, lkp, ai, ag, aw, ay, Nat.mul_one, au, ax, acs, Ty.dflt, zG, ao, aF, Ty.size, ne_eq, not_false_eq_true, Int.natCast_one, Int.mul_one, aC, aB, aD, ak, az, aO, reduceCtorEq, E, D, J, S, M, O, Try.el22, Try.el26, Try.st25, Try.td2, Try.td22, Try.td25, Try.td26, Try.td3, Try.td4, Dfa.av]; (repeat refine And.intro (by first | omega | assumption | exact rfl) ?_); refine V _ ?_; clear V K0; simp only [put, app, aa, af, zE, zS, D])
           (refine ab rfl fun K0 V => ?_; simp only [zE, op1, ev, lkp, ai, ag, ev, reduceCtorEq, E, D, J, S, M, O, Try.td4, Dfa.av]; refine V _ ?_; clear V K0; simp only [put, app, aa, af, zE, zS, D])
           refine' aU (want := false) 10 rfl (m := 65) (by simp only [U, lkp, zE, reduceCtorEq, E, Y, D]; exact rfl) (by kernel_rfl) rfl rfl rfl rfl rfl (fun hg38 => ?a38) ?b38 ?c38
           case a38 =>
            have hq38 := hg38; (try simp only [zB, reduceCtorEq] at hg38); simp only [List.take_succ_cons, List.take_zero, List.cons_append, List.nil_append]
            (refine aL rfl fun K0 V => ?_; simp only [zE, op1, ev, lkp, ai, ag, aw, reduceCtorEq, E, D, J, S, M, O, Try.st25, Try.td2, Try.td25, Dfa.av]; (repeat refine And.intro (by first | omega | assumption | exact rfl) ?_); refine V _ ?_; clear V K0; simp only [put, app, aa, af, zE, zS, D])
            (refine aL rfl fun K0 V => ?_; simp only [zE, op1, ev, lkp, ai, ag, ay, Nat.mul_one, au, ax, acs, Ty.dflt, zG, ao, reduceCtorEq, E, D, J, S, M, O, Try.el22, Try.td22, Dfa.av]; (repeat refine And.intro (by first | omega | assumption | exact rfl) ?_); refine V _ ?_; clear V K0; simp only [put, app, aa, af, zE, zS, D])
            (refine aL rfl fun K0 V => ?_; simp only [zE, op1, ev, lkp, ai, ag, ev, reduceCtorEq, E, D, J, S, M, O, Try.td3, Dfa.av]; refine V _ ?_; clear V K0; simp only [put, app, aa, af, zE, zS, D])
            (refine aL rfl fun K0 V => ?_; simp only [zE, op1, ev, lkp, ai, ag, aF, zG, Ty.dflt, Ty.size, Nat.mul_one, ne_eq, not_false_eq_true, Int.natCast_one, Int.mul_one, reduceCtorEq, E, D, J, S, M, O, Try.el22, Try.td22, Dfa.av]; (repeat refine And.intro (by first | omega | assumption | exact rfl) ?_); refine V _ ?_; clear V K0; simp only [put, app, aa, af, zE, zS, D])
            (refine aL rfl fun K0 V => ?_; simp only [zE, op1, ev, lkp, ai, ag, ay, Nat.mul_one, au, ax, acs, Ty.dflt, zG, ao, reduceCtorEq, E, D, J, S, M, O, Try.el26, Try.td26, Dfa.av]; (repeat refine And.intro (by first | omega | assumption | exact rfl) ?_); refine V _ ?_; clear V K0; simp only [put, app, aa, af, zE, zS, D])
            (refine aL rfl fun K0 V => ?_; simp only [zE, op1, ev, lkp, ai, ag, ev, reduceCtorEq, E, D, J, S, M, O, Try.td3, Dfa.av]; refine V _ ?_; clear V K0; simp only [put, app, aa, af, zE, zS, D])
            (refine aL rfl fun K0 V => ?_; simp only [zE, op1, ev, lkp, ai, ag, aF, zG, Ty.dflt, Ty.size, Nat.mul_one, ne_eq, not_false_eq_true, Int.natCast_one, Int.mul_one, reduceCtorEq, E, D, J, S, M, O, Try.el26, Try.td26, Dfa.av]; (repeat refine And.intro (by first | omega | assumption | exact rfl) ?_); refine V _ ?_; clear V K0; simp only [put, app, aa, af, zE, zS, D])
            (refine aL rfl fun K0 V => ?_; simp only [zE, op1, ev, lkp, ai, ag, ay, Nat.mul_one, au, ax, acs, Ty.dflt, zG, ao, reduceCtorEq, E, D, J, S, M, O, Try.td3, Dfa.av]; (repeat refine And.intro (by first | omega | assumption | exact rfl) ?_); refine V _ ?_; clear V K0; simp only [put, app, aa, af, zE, zS, D])
            (refine aL rfl fun K0 V => ?_; simp only [zE, op1, ev, lkp, ai, ag, ev, reduceCtorEq, E, D, J, S, M, O, Try.td3, Dfa.av]; refine V _ ?_; clear V K0; simp only [put, app, aa, af, zE, zS, D])
            (refine aL rfl fun K0 V => ?_; simp only [zE, op1, ev, lkp, ai, ag, aC, aB, aD, ak, az, aO, reduceCtorEq, E, D, J, S, M, O, Try.td3, Try.td4, Dfa.av]; (repeat refine And.intro (by first | omega | assumption | exact rfl) ?_); refine V _ ?_; clear V K0; simp only [put, app, aa, af, zE, zS, D])
            (refine ab rfl fun K0 V => ?_; simp only [zE, op1, ev, lkp, ai, ag, bq, reduceCtorEq, E, D, J, S, M, O, Try.td4, Dfa.av]; refine V _ ?_; clear V K0; simp only [put, app, aa, af, zE, zS, D])
            refine ah ?_
            refine ⟨by simp only [U, lkp, zE, reduceCtorEq, E, Y, D]; exact rfl, rfl, ?_, rfl⟩; (repeat refine aV rfl ?_); exact bu (by exact rfl) hq38
           case b38 => exact bt (by first | rfl | (simp [c0]; done) | decide)
           simp only [bm, bb]
           refine ah ?_
           refine hK37 _ ?_; clear hK37; refine ad [1, 2, 3, 4, 5, 53, 76] ?_; simp only [U, lkp, zE, reduceCtorEq, E, Y, D]
           refine aA (by simp only [ev, U, lkp, zE, reduceCtorEq, E, Y, D]; exact rfl) (fun hc39 => ?_) (fun hc39 => ?_)
           ·(try simp only [zB, reduceCtorEq] at hc39)
            have hb9 : d.cb k j := by unfold Dfa.cb Dfa.row; rw [Int.toNat_natCast]; omega
            have hj9 : (j : Int) < d.inp := by omega
            refine Z fun K40 hK40 => ?_
            refine ae hP hN rfl ?_
            (refine ab rfl fun K0 V => ?_; simp only [zE, op1, ev, lkp, ai, ag, ev, reduceCtorEq, E, D, J, S, M, O, Try.td3, Dfa.av]; refine V _ ?_; clear V K0; simp only [put, app, aa, af, zE, zS, D])
            refine ah ?_
            refine hK40 _ ?_; clear hK40; refine ad [1, 2, 3, 4, 5, 53, 76] ?_; simp only [U, lkp, zE, reduceCtorEq, E, Y, D]
            refine aJ ?_
            refine ⟨by first | exact .inl rfl | exact .inr rfl, _, rfl, ?_⟩; simp only [fzV, fz1, fzC, List.map_cons, List.map_nil, U, lkp, zE, reduceCtorEq, E, Y, D, Dfa.av]
            refine VLE.of_eq ?_
            refine congrArg (fun n => AV.one (AC.int IntKind.i64 n)) ?_
            unfold bc
            symm
            first
            | (rw [if_pos (by omega)]; done)
            | (rw [if_neg (by omega), if_pos (by omega)]; done)
            | (rw [if_neg (by omega), if_neg (by omega), if_pos (by omega)]; done)
            | (rw [if_neg (by omega), if_neg (by omega), if_neg (by omega), if_pos (by omega)]; done)
            | (rw [if_neg (by omega), if_neg (by omega), if_neg (by omega), if_neg (by omega), if_pos (by omega)]; done)
            | (rw [if_neg (by omega), if_neg (by omega), if_neg (by omega), if_neg (by omega), if_neg (by omega)]
               first
               | exact (aT hrows (by omega) (by rw [ck hl9]; decide)).trans (ck hl9)
               | exact (aT hrows (by omega) (by rw [ci hl9 hb9]; decide)).trans (ci hl9 hb9)
               | exact (aT hrows (by omega) (by rw [bP hl9 hj9 hb9 hcells]; decide)).trans (bP hl9 hj9 hb9 hcells)
               | exact bE fun i hi => hrows i (by omega))
           ·(try simp only [zB, reduceCtorEq] at hc39)
            have hb9 : ¬ d.cb k j := by unfold Dfa.cb Dfa.row; rw [Int.toNat_natCast]; omega
            refine aI ?_
            refine hK36 _ ?_; clear hK36; refine ad [1, 2, 3, 4, 5, 53, 76] ?_; simp only [U, lkp, zE, reduceCtorEq, E, Y, D]
            refine ae hP hN rfl ?_
            iterate 3 (refine ab rfl fun K0 V => ?_; simp only [zE, op1, ev, lkp, ai, ag, aC, aB, aD, ak, az, aO, reduceCtorEq, E, D, J, S, M, O, Try.td3, Dfa.av]; (repeat refine And.intro (by first | omega | assumption | exact rfl) ?_); refine V _ ?_; clear V K0; simp only [put, app, aa, af, zE, zS, D])
            refine ah ?_
            refine ⟨_, _, ?_, aE [1, 2, 3, 4, 5], j + 1, by omega, fun a ha => ?_, rfl, rfl⟩
            · omega
            · by_cases e : a = j
              · rw [e]; exact hb9
              · exact hcells a (by omega)
          ·(try simp only [zB, reduceCtorEq] at hc35)
           refine bg ?_
           refine hK26 _ ?_; clear hK26; refine ad [1, 2, 3, 4, 5, 53] ?_; simp only [U, lkp, zE, reduceCtorEq, E, Y, D]
           refine ae hP hN rfl ?_
           iterate 3 (refine ab rfl fun K0 V => ?_; simp only [zE, op1, ev, lkp, ai, ag, aC, aB, aD, ak, az, aO, reduceCtorEq, E, D, J, S, M, O, Try.td3, Dfa.av]; (repeat refine And.intro (by first | omega | assumption | exact rfl) ?_); refine V _ ?_; clear V K0; simp only [put, app, aa, af, zE, zS, D])
           refine ah ?_
           refine ⟨_, _, ?_, aE [1, 2, 3, 4], k + 1, by omega, fun i hi => ?_, rfl, rfl⟩
           · omega
           · by_cases e : i = k
             · rw [e]; exact l5 hl9 fun a ha => hcells a (by omega)
             · exact hrows i (by omega)
       ·(try simp only [zB, reduceCtorEq] at hc25)
        refine bg ?_
        refine hK20 _ ?_; clear hK20; refine ad [1, 2, 3, 4, 38] ?_; simp only [U, lkp, zE, reduceCtorEq, E, Y, D]
        refine Z fun K41 hK41 => ?_
        refine ae hP hN rfl ?_
        (refine ab rfl fun K0 V => ?_; simp only [zE, op1, ev, lkp, ai, ag, ev, reduceCtorEq, E, D, J, S, M, O, Try.td3, Dfa.av]; refine V _ ?_; clear V K0; simp only [put, app, aa, af, zE, zS, D])
        refine ah ?_
        refine hK41 _ ?_; clear hK41; refine ad [1, 2, 3, 4, 38] ?_; simp only [U, lkp, zE, reduceCtorEq, E, Y, D]
        refine aJ ?_
        refine ⟨by first | exact .inl rfl | exact .inr rfl, _, rfl, ?_⟩; simp only [fzV, fz1, fzC, List.map_cons, List.map_nil, U, lkp, zE, reduceCtorEq, E, Y, D, Dfa.av]
        refine VLE.of_eq ?_
        refine congrArg (fun n => AV.one (AC.int IntKind.i64 n)) ?_
        unfold bc
        symm
        first
        | (rw [if_pos (by omega)]; done)
        | (rw [if_neg (by omega), if_pos (by omega)]; done)
        | (rw [if_neg (by omega), if_neg (by omega), if_pos (by omega)]; done)
        | (rw [if_neg (by omega), if_neg (by omega), if_neg (by omega), if_pos (by omega)]; done)
        | (rw [if_neg (by omega), if_neg (by omega), if_neg (by omega), if_neg (by omega), if_pos (by omega)]; done)
        | (rw [if_neg (by omega), if_neg (by omega), if_neg (by omega), if_neg (by omega), if_neg (by omega)]
           first
           | exact (aT hrows (by omega) (by rw [ck hl9]; decide)).trans (ck hl9)
           | exact (aT hrows (by omega) (by rw [ci hl9 hb9]; decide)).trans (ci hl9 hb9)
           | exact (aT hrows (by omega) (by rw [bP hl9 hj9 hb9 hcells]; decide)).trans (bP hl9 hj9 hb9 hcells)
           | exact bE fun i hi => hrows i (by omega))
end Go.Proofs.Ytdkgcbhbpdbmnaa
namespace Go.Proofs.Ytdkgcbhbpdbmnaa
open Go Go.AV
open Nat renaming reduceEqDiff → E, reduceAdd → D, reduceLeDiff → J, reduceLT → S, reduceMul → M, reduceSub → O
open List renaming set_cons_zero → ar, set_cons_succ → aq
end Go.Proofs.Ytdkgcbhbpdbmnaa
namespace Go.Proofs.Ytdkgcbhbpdbmnaa
open Go Go.AV
open Nat renaming reduceEqDiff → E, reduceAdd → D, reduceLeDiff → J, reduceLT → S, reduceMul → M, reduceSub → O
open List renaming set_cons_zero → ar, set_cons_succ → aq
end Go.Proofs.Ytdkgcbhbpdbmnaa
namespace Go.Proofs.Ytdkgcbhbpdbmnaa
open Go Go.AV
open Nat renaming reduceEqDiff → E, reduceAdd → D, reduceLeDiff → J, reduceLT → S, reduceMul → M, reduceSub → O
open List renaming set_cons_zero → ar, set_cons_succ → aq
end Go.Proofs.Ytdkgcbhbpdbmnaa
namespace Go.AV
open Nat renaming reduceEqDiff → E, reduceAdd → D, reduceLeDiff → J, reduceLT → S, reduceMul → M, reduceSub → O
open List renaming set_cons_zero → ar, set_cons_succ → aq
/-plain-/
end Go.AV
