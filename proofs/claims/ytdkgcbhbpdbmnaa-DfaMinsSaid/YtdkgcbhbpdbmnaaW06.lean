/- Contracts of functions of this seat, each out of a walk through its code, and plain facts on what they compute. Conditions: those that each theorem names. -/
import Derived.Test.YtdkgcbhbpdbmnaaW05
set_option linter.unusedSimpArgs false
set_option linter.unusedVariables false
namespace Go.Proofs.Ytdkgcbhbpdbmnaa
open Go Go.AV
open Nat renaming reduceEqDiff → E, reduceAdd → D, reduceLeDiff → J, reduceLT → S, reduceMul → M, reduceSub → O
open List renaming set_cons_zero → ar, set_cons_succ → aq
end Go.Proofs.Ytdkgcbhbpdbmnaa
namespace Go.Proofs.Ytdkgcbhbpdbmnaa
open Go Go.AV
open Nat renaming reduceEqDiff → E, reduceAdd → D, reduceLeDiff → J, reduceLT → S, reduceMul → M, reduceSub → O
open List renaming set_cons_zero → ar, set_cons_succ → aq
set_option maxRecDepth 100000 in
set_option maxHeartbeats 1000000 in
theorem oY (d : Dfa) (n : Int) : bH Try.prog 29 [d.av, .one (.int .i64 n)] (.tup [.one (.int .i64 (cuV d n)), .one (.int .i64 (cuE d n))]) := by
 refine aR Try.func29 rfl (by kernel_rfl) (Nat.le_of_ble_eq_true rfl) rfl fun C hP hN hB => ?_
 replace hN : C.N = 99 := hN
 simp only [Y, D]
 refine Z fun K1 hK1 => ?_
 refine ae hP hN rfl ?_
 iterate 3 (refine ab rfl fun K0 V => ?_; simp only [zE, op1, ev, lkp, ai, ag, ch, am, reduceCtorEq, E, D, J, S, M, O, Try.st25, Try.td25, Try.td3, Dfa.av]; (repeat refine And.intro (by first | omega | assumption | exact rfl) ?_); refine V _ ?_; clear V K0; simp only [put, app, aa, af, zE, zS, D])
 refine ah ?_
 refine hK1 _ ?_; clear hK1; refine ad [0, 1, 2, 4, 5] ?_; simp only [U, lkp, zE, reduceCtorEq, E, Y, D]
 refine Z fun K2 hK2 => ?_
 refine Z fun K3 hK3 => ?_
 refine ae hP hN rfl ?_
 (refine ab rfl fun K0 V => ?_; simp only [zE, op1, ev, lkp, ai, ag, ay, Nat.mul_one, au, ax, acs, Ty.dflt, zG, ao, reduceCtorEq, E, D, J, S, M, O, Try.st25, Try.td25, Dfa.av]; (repeat refine And.intro (by first | omega | assumption | exact rfl) ?_); refine V _ ?_; clear V K0; simp only [put, app, aa, af, zE, zS, D])
 refine ab rfl fun K0 V => ?_
 refine aS (h := aG (ec d)) rfl rfl (by first | exact rfl | (simp only [ev, U, lkp, zE, reduceCtorEq, E, Y, D]; exact rfl)) (by simp only [zE, zG, op1, ev, lkp, ai, ag, am, acs, be, mv1, mvC, Ty.dflt, reduceCtorEq, E, D, J, S, M, O, Dfa.av]) ?_
 refine V _ ?_; clear V K0; simp only [put, app, aa, af, zE, zS, D]
 (refine ab rfl fun K0 V => ?_; simp only [zE, op1, ev, lkp, ai, ag, aC, aB, aD, ak, az, aO, reduceCtorEq, E, D, J, S, M, O, Try.td3, Try.td4, Dfa.av]; (repeat refine And.intro (by first | omega | assumption | exact rfl) ?_); refine V _ ?_; clear V K0; simp only [put, app, aa, af, zE, zS, D])
 refine ah ?_
 refine hK3 _ ?_; clear hK3; refine ad [0, 1, 2, 4, 5, 14] ?_; simp only [U, lkp, zE, reduceCtorEq, E, Y, D]
 refine aA (by simp only [ev, U, lkp, zE, reduceCtorEq, E, Y, D]; exact rfl) (fun hc4 => ?_) (fun hc4 => ?_)
 ·(try simp only [zB, reduceCtorEq] at hc4)
  refine Z fun K5 hK5 => ?_
  refine ae hP hN rfl ?_
  (refine ab rfl fun K0 V => ?_; simp only [zE, op1, ev, lkp, ai, ag, ay, Nat.mul_one, au, ax, acs, Ty.dflt, zG, ao, reduceCtorEq, E, D, J, S, M, O, Try.st25, Try.td25, Dfa.av]; (repeat refine And.intro (by first | omega | assumption | exact rfl) ?_); refine V _ ?_; clear V K0; simp only [put, app, aa, af, zE, zS, D])
  refine ab rfl fun K0 V => ?_
  refine aS (h := aG (ec d)) rfl rfl (by first | exact rfl | (simp only [ev, U, lkp, zE, reduceCtorEq, E, Y, D]; exact rfl)) (by simp only [zE, zG, op1, ev, lkp, ai, ag, am, acs, be, mv1, mvC, Ty.dflt, reduceCtorEq, E, D, J, S, M, O, Dfa.av]) ?_
  refine V _ ?_; clear V K0; simp only [put, app, aa, af, zE, zS, D]
  iterate 2 (refine ab rfl fun K0 V => ?_; simp only [zE, op1, ev, lkp, ai, ag, ev, reduceCtorEq, E, D, J, S, M, O, Try.td3, Dfa.av]; refine V _ ?_; clear V K0; simp only [put, app, aa, af, zE, zS, D])
  refine ah ?_
  refine hK5 _ ?_; clear hK5; refine ad [0, 1, 2, 4, 5, 14] ?_; simp only [U, lkp, zE, reduceCtorEq, E, Y, D]
  refine aJ ?_
  refine ⟨by first | exact .inl rfl | exact .inr rfl, _, rfl, ?_⟩; simp only [fzV, fz1, fzC, List.map_cons, List.map_nil, U, lkp, zE, reduceCtorEq, E, Y, D, Dfa.av]
  refine VLE.of_eq ?_
  first
  | (have g9 := jn (n := n) (by assumption); obtain ⟨g1, g2⟩ := g9; rw [g1, g2])
  | (have g9 := jr hv (n := n) (by omega); obtain ⟨g1, g2⟩ := g9; rw [g1, g2])
  | (have g9 := jx hv (n := n) (by omega) (by assumption); obtain ⟨g1, g2⟩ := g9; rw [g1, g2])
  | (have g9 := gm hv (n := n) (by omega) (by omega); obtain ⟨g1, g2⟩ := g9; rw [g1, g2])
 ·(try simp only [zB, reduceCtorEq] at hc4)
  have hv : bc d = 0 := by omega
  have hd := dx hv; have a1 := hd.i1; have a2 := hd.i2; have a3 := hd.n1; have a4 := hd.n2; have a5 := hd.s1; have a6 := hd.s2; have a7 := hd.al
  refine aI ?_
  refine hK2 _ ?_; clear hK2; refine ad [0, 1, 2, 4, 5, 14] ?_; simp only [U, lkp, zE, reduceCtorEq, E, Y, D]
  refine Z fun K6 hK6 => ?_
  refine Z fun K7 hK7 => ?_
  refine ae hP hN rfl ?_
  iterate 2 (refine ab rfl fun K0 V => ?_; simp only [zE, op1, ev, lkp, ai, ag, aC, aB, aD, ak, az, aO, reduceCtorEq, E, D, J, S, M, O, Try.td3, Try.td4, Dfa.av]; (repeat refine And.intro (by first | omega | assumption | exact rfl) ?_); refine V _ ?_; clear V K0; simp only [put, app, aa, af, zE, zS, D])
  (refine ab rfl fun K0 V => ?_; simp only [zE, op1, ev, lkp, ai, ag, ev, reduceCtorEq, E, D, J, S, M, O, Try.td4, Dfa.av]; refine V _ ?_; clear V K0; simp only [put, app, aa, af, zE, zS, D])
  refine' aU (want := false) 2 rfl (m := 19) (by simp only [U, lkp, zE, reduceCtorEq, E, Y, D]; exact rfl) (by kernel_rfl) rfl rfl rfl rfl rfl (fun hg8 => ?a8) ?b8 ?c8
  case a8 =>
   have hq8 := hg8; (try simp only [zB, reduceCtorEq] at hg8); simp only [List.take_succ_cons, List.take_zero, List.cons_append, List.nil_append]
   (refine aL rfl fun K0 V => ?_; simp only [zE, op1, ev, lkp, ai, ag, ev, reduceCtorEq, E, D, J, S, M, O, Try.td3, Dfa.av]; refine V _ ?_; clear V K0; simp only [put, app, aa, af, zE, zS, D])
   (refine aL rfl fun K0 V => ?_; simp only [zE, op1, ev, lkp, ai, ag, aC, aB, aD, ak, az, aO, reduceCtorEq, E, D, J, S, M, O, Try.td3, Try.td4, Dfa.av]; (repeat refine And.intro (by first | omega | assumption | exact rfl) ?_); refine V _ ?_; clear V K0; simp only [put, app, aa, af, zE, zS, D])
   (refine ab rfl fun K0 V => ?_; simp only [zE, op1, ev, lkp, ai, ag, bq, reduceCtorEq, E, D, J, S, M, O, Try.td4, Dfa.av]; refine V _ ?_; clear V K0; simp only [put, app, aa, af, zE, zS, D])
   refine ah ?_
   refine ⟨by simp only [U, lkp, zE, reduceCtorEq, E, Y, D]; exact rfl, rfl, ?_, rfl⟩; (repeat refine aV rfl ?_); exact bu (by exact rfl) hq8
  case b8 => exact bt (by first | rfl | (simp [c0]; done) | decide)
  simp only [bm, bb]
  refine ah ?_
  refine hK7 _ ?_; clear hK7; refine ad [0, 1, 2, 4, 5, 14, 22] ?_; simp only [U, lkp, zE, reduceCtorEq, E, Y, D]
  refine aA (by simp only [ev, U, lkp, zE, reduceCtorEq, E, Y, D]; exact rfl) (fun hc9 => ?_) (fun hc9 => ?_)
  ·(try simp only [zB, reduceCtorEq] at hc9)
   refine Z fun K10 hK10 => ?_
   refine ae hP hN rfl ?_
   iterate 2 (refine ab rfl fun K0 V => ?_; simp only [zE, op1, ev, lkp, ai, ag, ev, reduceCtorEq, E, D, J, S, M, O, Try.td3, Dfa.av]; refine V _ ?_; clear V K0; simp only [put, app, aa, af, zE, zS, D])
   refine ah ?_
   refine hK10 _ ?_; clear hK10; refine ad [0, 1, 2, 4, 5, 14, 22] ?_; simp only [U, lkp, zE, reduceCtorEq, E, Y, D]
   refine aJ ?_
   refine ⟨by first | exact .inl rfl | exact .inr rfl, _, rfl, ?_⟩; simp only [fzV, fz1, fzC, List.map_cons, List.map_nil, U, lkp, zE, reduceCtorEq, E, Y, D, Dfa.av]
   refine VLE.of_eq ?_
   first
   | (have g9 := jn (n := n) (by assumption); obtain ⟨g1, g2⟩ := g9; rw [g1, g2])
   | (have g9 := jr hv (n := n) (by omega); obtain ⟨g1, g2⟩ := g9; rw [g1, g2])
   | (have g9 := jx hv (n := n) (by omega) (by assumption); obtain ⟨g1, g2⟩ := g9; rw [g1, g2])
   | (have g9 := gm hv (n := n) (by omega) (by omega); obtain ⟨g1, g2⟩ := g9; rw [g1, g2])
  ·(try simp only [zB, reduceCtorEq] at hc9)
   have hn : ¬ (n < 0 ∨ 1024 < n) := by omega
   refine aI ?_
   refine hK6 _ ?_; clear hK6; refine ad [0, 1, 2, 4, 5, 14, 22] ?_; simp only [U, lkp, zE, reduceCtorEq, E, Y, D]
   refine Z fun K11 hK11 => ?_
   refine ae hP hN rfl ?_
   iterate 5 (refine ab rfl fun K0 V => ?_; simp only [zE, op1, ev, lkp, ai, ag, aw, ay, Nat.mul_one, au, ax, acs, Ty.dflt, zG, ao, aK, br, bf, aY, b0, bn, Nat.div_one, aP, ba, Ty.size, aM, dite_true, cq, reduceCtorEq, E, D, J, S, M, O, Try.el22, Try.el26, Try.st25, Try.td2, Try.td22, Try.td25, Try.td26, Try.td3, Dfa.av]; (repeat refine And.intro (by first | omega | assumption | exact rfl) ?_); (first | refine V _ ?_ | refine Or.inl (V _ ?_)); clear V K0; simp only [put, app, aa, af, zE, zS, D])
   refine ah ?_
   refine hK11 _ ?_; clear hK11; refine ad [0, 1, 2, 4, 5, 6, 14, 22] ?_; simp only [U, lkp, zE, reduceCtorEq, E, Y, D]
   refine Z fun K12 hK12 => ?_
   refine Z fun K13 hK13 => ?_
   refine ae hP hN rfl ?_
   (refine ab rfl fun K0 V => ?_; simp only [zE, op1, ev, lkp, ai, ag, ev, reduceCtorEq, E, D, J, S, M, O, Try.td3, Dfa.av]; refine V _ ?_; clear V K0; simp only [put, app, aa, af, zE, zS, D])
   refine ah ?_
   refine hK13 _ ?_; clear hK13; refine ad [0, 1, 2, 4, 5, 6, 7, 14, 22] ?_; simp only [U, lkp, zE, reduceCtorEq, E, Y, D]
   refine aH ?_
   refine bj (fun n14 s14 => ∃ (k : Nat), (k ≤ d.nx.length) ∧ n14 = d.nx.length - k ∧ s14 = { env := [(1, .one (.int .i64 n)), (2, .one (.ptr 0 0 0 0)), (4, .one (.int .i64 0)), (5, .one (.int .i64 0)), (6, .one (.row 1 0)), (7, .one (.int .i64 (k : Int)))], L := [.vars 25 [.int .i64 d.inp, .int .i64 d.st, .list (.list (.int .i64)) d.nx, .list .bool d.acc], .row (.int .i64) 3 0 (prL (eB d) d.nx.length k 0)] }) ?_ ?_
   ·exact ⟨_, _, aE [1, 2, 4, 5, 6, 7], 0, Nat.zero_le _, rfl, by rw [fQ]; rfl⟩
   ·rintro n14 s14 ⟨k, hk, rfl, rfl⟩
    refine Z fun K15 hK15 => ?_
    refine Z fun K16 hK16 => ?_
    refine ae hP hN rfl ?_
    iterate 4 (refine ab rfl fun K0 V => ?_; simp only [zE, op1, ev, lkp, ai, ag, aK, br, bf, aY, b0, bn, Nat.div_one, aP, ba, Ty.size, aM, dite_true, aC, aB, aD, ak, az, aO, reduceCtorEq, E, D, J, S, M, O, Try.el26, Try.td26, Try.td3, Try.td4, Dfa.av, bG]; (repeat refine And.intro (by first | omega | assumption | exact rfl) ?_); (first | refine V _ ?_ | refine Or.inl (V _ ?_)); clear V K0; simp only [put, app, aa, af, zE, zS, D])
    refine ah ?_
    refine hK16 _ ?_; clear hK16; refine ad [1, 2, 4, 5, 6, 7, 30] ?_; simp only [U, lkp, zE, reduceCtorEq, E, Y, D]
    refine aA (by simp only [ev, U, lkp, zE, reduceCtorEq, E, Y, D]; exact rfl) (fun hc17 => ?_) (fun hc17 => ?_)
    ·(try simp only [zB, reduceCtorEq] at hc17)
     refine aI ?_
     refine hK15 _ ?_; clear hK15; refine ad [1, 2, 4, 5, 6, 7, 30] ?_; simp only [U, lkp, zE, reduceCtorEq, E, Y, D]
     refine Z fun K18 hK18 => ?_
     refine aH ?_
     refine Z fun K19 hK19 => ?_
     refine ae hP hN rfl ?_
     iterate 5 (refine ab rfl fun K0 V => ?_; simp only [zE, op1, ev, lkp, ai, ag, aw, ay, Nat.mul_one, au, ax, acs, Ty.dflt, zG, ao, aF, Ty.size, ne_eq, not_false_eq_true, Int.natCast_one, Int.mul_one, reduceCtorEq, E, D, J, S, M, O, Try.el23, Try.st25, Try.td23, Try.td25, Try.td3, Try.td4, Dfa.av]; (repeat refine And.intro (by first | omega | assumption | exact rfl) ?_); refine V _ ?_; clear V K0; simp only [put, app, aa, af, zE, zS, D])
     refine ah ?_
     refine hK19 _ ?_; clear hK19; refine ad [1, 2, 4, 5, 6, 7, 30, 37] ?_; simp only [U, lkp, zE, reduceCtorEq, E, Y, D]
     refine aA (by simp only [ev, U, lkp, zE, reduceCtorEq, E, Y, D]; exact rfl) (fun hc20 => ?_) (fun hc20 => ?_)
     ·(try simp only [zB, reduceCtorEq] at hc20)
      have hat : d.acc.getD k false = true := hc20
      refine ae hP hN rfl ?_
      iterate 4 (refine ab rfl fun K0 V => ?_; simp only [zE, op1, ev, lkp, ai, ag, aF, zG, Ty.dflt, Ty.size, Nat.mul_one, ne_eq, not_false_eq_true, Int.natCast_one, Int.mul_one, aX, am, aN, aM, acs, reduceCtorEq, E, D, J, S, M, O, Try.el26, Try.td26, Try.td3, Dfa.av, bG]; (repeat refine And.intro (by first | omega | assumption | exact rfl) ?_); refine V _ ?_; clear V K0; simp only [put, app, aa, af, zE, zS, D])
      refine ah ?_
      refine hK18 _ ?_; clear hK18; refine ad [1, 2, 4, 5, 6, 7, 30, 37] ?_; simp only [U, lkp, zE, reduceCtorEq, E, Y, D]
      refine ae hP hN rfl ?_
      iterate 3 (refine ab rfl fun K0 V => ?_; simp only [zE, op1, ev, lkp, ai, ag, aC, aB, aD, ak, az, aO, reduceCtorEq, E, D, J, S, M, O, Try.td3, Dfa.av]; (repeat refine And.intro (by first | omega | assumption | exact rfl) ?_); refine V _ ?_; clear V K0; simp only [put, app, aa, af, zE, zS, D])
      refine ah ?_
      first
      | (refine ⟨_, _, ?_, aE [1, 2, 4, 5, 6, 7], k + 1, by omega, rfl, ?_⟩
         · omega
         · rw [← j2 (by omega) hat]; rfl)
      | (refine ⟨_, _, ?_, aE [1, 2, 4, 5, 6, 7], k + 1, by omega, rfl, ?_⟩
         · omega
         · rw [← j4 hat]; rfl)
     ·(try simp only [zB, reduceCtorEq] at hc20)
      have hat : d.acc.getD k false = false := by simpa using hc20
      refine aI ?_
      refine hK18 _ ?_; clear hK18; refine ad [1, 2, 4, 5, 6, 7, 30, 37] ?_; simp only [U, lkp, zE, reduceCtorEq, E, Y, D]
      refine ae hP hN rfl ?_
      iterate 3 (refine ab rfl fun K0 V => ?_; simp only [zE, op1, ev, lkp, ai, ag, aC, aB, aD, ak, az, aO, reduceCtorEq, E, D, J, S, M, O, Try.td3, Dfa.av]; (repeat refine And.intro (by first | omega | assumption | exact rfl) ?_); refine V _ ?_; clear V K0; simp only [put, app, aa, af, zE, zS, D])
      refine ah ?_
      first
      | (refine ⟨_, _, ?_, aE [1, 2, 4, 5, 6, 7], k + 1, by omega, rfl, ?_⟩
         · omega
         · rw [← j2 (by omega) hat]; rfl)
      | (refine ⟨_, _, ?_, aE [1, 2, 4, 5, 6, 7], k + 1, by omega, rfl, ?_⟩
         · omega
         · rw [← j4 hat]; rfl)
    ·(try simp only [zB, reduceCtorEq] at hc17)
     refine bg ?_
     refine hK12 _ ?_; clear hK12; refine ad [1, 2, 4, 5, 6, 7, 30] ?_; simp only [U, lkp, zE, reduceCtorEq, E, Y, D]
     refine Z fun K21 hK21 => ?_
     refine Z fun K22 hK22 => ?_
     refine ae hP hN rfl ?_
     (refine ab rfl fun K0 V => ?_; simp only [zE, op1, ev, lkp, ai, ag, ev, reduceCtorEq, E, D, J, S, M, O, Try.td3, Dfa.av]; refine V _ ?_; clear V K0; simp only [put, app, aa, af, zE, zS, D])
     refine ah ?_
     refine hK22 _ ?_; clear hK22; refine ad [1, 2, 4, 5, 6, 7, 8, 30] ?_; simp only [U, lkp, zE, reduceCtorEq, E, Y, D]
     refine aH ?_
     refine cD 1 rfl ?_; simp only [List.map_cons, List.map_nil, zS, E, and_self, and_true, true_and, and_false, false_and, if_true, if_false, eq_self, reduceCtorEq, Nat.one_ne_zero, Nat.zero_ne_one]
     obtain rfl : k = d.nx.length := by omega
     rw [dR, show (List.range d.nx.length).map (eB d) = cC d 0 from rfl]
     refine cK (n := 1) (L1 := [_]) rfl rfl (by rw [hB]; decide) rfl rfl ?_
     refine bj (fun n23 s23 => ∃ (r : Nat), ((r : Int) ≤ n) ∧ n23 = n.toNat - r ∧ s23 = { env := [(1, .one (.int .i64 n)), (2, .one (.ptr 0 0 0 0)), (4, .one (.int .i64 0)), (5, .one (.int .i64 0)), (6, .one (.list (.int .i64) (cC d r))), (8, .one (.int .i64 (r : Int)))], L := [.vars 25 [.int .i64 d.inp, .int .i64 d.st, .list (.list (.int .i64)) d.nx, .list .bool d.acc]] }) ?_ ?_
     ·exact ⟨_, _, aE [1, 2, 4, 5, 6, 8], 0, by omega, rfl, rfl⟩
     ·rintro n23 s23 ⟨r, hr, rfl, rfl⟩
      refine Z fun K24 hK24 => ?_
      refine Z fun K25 hK25 => ?_
      refine ae hP hN rfl ?_
      iterate 3 (refine ab rfl fun K0 V => ?_; simp only [zE, op1, ev, lkp, ai, ag, aC, aB, aD, ak, az, aO, reduceCtorEq, E, D, J, S, M, O, Try.td3, Try.td4, Dfa.av]; (repeat refine And.intro (by first | omega | assumption | exact rfl) ?_); refine V _ ?_; clear V K0; simp only [put, app, aa, af, zE, zS, D])
      refine ah ?_
      refine hK25 _ ?_; clear hK25; refine ad [1, 2, 4, 5, 6, 8, 43] ?_; simp only [U, lkp, zE, reduceCtorEq, E, Y, D]
      refine aA (by simp only [ev, U, lkp, zE, reduceCtorEq, E, Y, D]; exact rfl) (fun hc26 => ?_) (fun hc26 => ?_)
      ·(try simp only [zB, reduceCtorEq] at hc26)
       refine aI ?_
       refine hK24 _ ?_; clear hK24; refine ad [1, 2, 4, 5, 6, 8, 43] ?_; simp only [U, lkp, zE, reduceCtorEq, E, Y, D]
       refine Z fun K27 hK27 => ?_
       refine aH ?_
       refine Z fun K28 hK28 => ?_
       refine ae hP hN rfl ?_
       iterate 5 (refine ab rfl fun K0 V => ?_; simp only [zE, op1, ev, lkp, ai, ag, aw, ay, Nat.mul_one, au, ax, acs, Ty.dflt, zG, ao, aK, br, bf, aY, b0, bn, Nat.div_one, aP, ba, Ty.size, aM, dite_true, cq, reduceCtorEq, E, D, J, S, M, O, Try.el22, Try.el26, Try.st25, Try.td2, Try.td22, Try.td25, Try.td26, Try.td3, Dfa.av]; (repeat refine And.intro (by first | omega | assumption | exact rfl) ?_); (first | refine V _ ?_ | refine Or.inl (V _ ?_)); clear V K0; simp only [put, app, aa, af, zE, zS, D])
       refine ah ?_
       refine hK28 _ ?_; clear hK28; refine ad [1, 2, 4, 5, 6, 8, 9, 43] ?_; simp only [U, lkp, zE, reduceCtorEq, E, Y, D]
       refine Z fun K29 hK29 => ?_
       refine Z fun K30 hK30 => ?_
       refine ae hP hN rfl ?_
       (refine ab rfl fun K0 V => ?_; simp only [zE, op1, ev, lkp, ai, ag, ev, reduceCtorEq, E, D, J, S, M, O, Try.td3, Dfa.av]; refine V _ ?_; clear V K0; simp only [put, app, aa, af, zE, zS, D])
       refine ah ?_
       refine hK30 _ ?_; clear hK30; refine ad [1, 2, 4, 5, 6, 8, 9, 10, 43] ?_; simp only [U, lkp, zE, reduceCtorEq, E, Y, D]
       refine aH ?_
       refine bj (fun n31 s31 => ∃ (s : Nat), (s ≤ d.nx.length) ∧ n31 = d.nx.length - s ∧ s31 = { env := [(1, .one (.int .i64 n)), (2, .one (.ptr 0 0 0 0)), (4, .one (.int .i64 0)), (5, .one (.int .i64 0)), (6, .one (.list (.int .i64) (cC d r))), (8, .one (.int .i64 (r : Int))), (9, .one (.row 1 0)), (10, .one (.int .i64 (s : Int)))], L := [.vars 25 [.int .i64 d.inp, .int .i64 d.st, .list (.list (.int .i64)) d.nx, .list .bool d.acc], .row (.int .i64) 3 0 (prL (eQ d (cC d r)) d.nx.length s 0)] }) ?_ ?_
       ·exact ⟨_, _, aE [1, 2, 4, 5, 6, 8, 9, 10], 0, by omega, rfl, by rw [fQ]; rfl⟩
       ·rintro n31 s31 ⟨s, hs, rfl, rfl⟩
        refine Z fun K32 hK32 => ?_
        refine Z fun K33 hK33 => ?_
        refine ae hP hN rfl ?_
        iterate 4 (refine ab rfl fun K0 V => ?_; simp only [zE, op1, ev, lkp, ai, ag, aK, br, bf, aY, b0, bn, Nat.div_one, aP, ba, Ty.size, aM, dite_true, aC, aB, aD, ak, az, aO, reduceCtorEq, E, D, J, S, M, O, Try.el26, Try.td26, Try.td3, Try.td4, Dfa.av, bG]; (repeat refine And.intro (by first | omega | assumption | exact rfl) ?_); (first | refine V _ ?_ | refine Or.inl (V _ ?_)); clear V K0; simp only [put, app, aa, af, zE, zS, D])
        refine ah ?_
        refine hK33 _ ?_; clear hK33; refine ad [1, 2, 4, 5, 6, 8, 9, 10, 53] ?_; simp only [U, lkp, zE, reduceCtorEq, E, Y, D]
        refine aA (by simp only [ev, U, lkp, zE, reduceCtorEq, E, Y, D]; exact rfl) (fun hc34 => ?_) (fun hc34 => ?_)
        ·(try simp only [zB, reduceCtorEq] at hc34)
         refine aI ?_
         refine hK32 _ ?_; clear hK32; refine ad [1, 2, 4, 5, 6, 8, 9, 10, 53] ?_; simp only [U, lkp, zE, reduceCtorEq, E, Y, D]
         refine Z fun K35 hK35 => ?_
         refine aH ?_
         refine Z fun K36 hK36 => ?_
         have hs9 : s < d.nx.length := by omega
         have hrl : ((d.nx.getD s []).length : Int) = d.inp := hd.rl s hs9
         refine ae hP hN rfl ?_
         (refine ab rfl fun K0 V => ?_; simp only [zE, op1, ev, lkp, ai, ag, ev, reduceCtorEq, E, D, J, S, M, O, Try.td3, Dfa.av]; refine V _ ?_; clear V K0; simp only [put, app, aa, af, zE, zS, D])
         refine ah ?_
         refine hK36 _ ?_; clear hK36; refine ad [1, 2, 4, 5, 6, 8, 9, 10, 11, 53] ?_; simp only [U, lkp, zE, reduceCtorEq, E, Y, D]
         refine aH ?_
         refine bj (fun n37 s37 => ∃ (j : Nat), ((j : Int) ≤ d.inp) ∧ n37 = d.inp.toNat - j ∧ s37 = { env := [(1, .one (.int .i64 n)), (2, .one (.ptr 0 0 0 0)), (4, .one (.int .i64 0)), (5, .one (.int .i64 0)), (6, .one (.list (.int .i64) (cC d r))), (8, .one (.int .i64 (r : Int))), (9, .one (.row 1 0)), (10, .one (.int .i64 (s : Int))), (11, .one (.int .i64 (j : Int)))], L := [.vars 25 [.int .i64 d.inp, .int .i64 d.st, .list (.list (.int .i64)) d.nx, .list .bool d.acc], .row (.int .i64) 3 0 (prL (eQ d (cC d r)) d.nx.length s (df (cC d r) (d.nx.getD s []) j))] }) ?_ ?_
         ·exact ⟨_, _, aE [1, 2, 4, 5, 6, 8, 9, 10, 11], 0, by omega, rfl, rfl⟩
         ·rintro n37 s37 ⟨j, hj, rfl, rfl⟩
          refine Z fun K38 hK38 => ?_
          refine Z fun K39 hK39 => ?_
          refine ae hP hN rfl ?_
          iterate 4 (refine ab rfl fun K0 V => ?_; simp only [zE, op1, ev, lkp, ai, ag, aw, ay, Nat.mul_one, au, ax, acs, Ty.dflt, zG, ao, aC, aB, aD, ak, az, aO, reduceCtorEq, E, D, J, S, M, O, Try.st25, Try.td25, Try.td3, Try.td4, Dfa.av]; (repeat refine And.intro (by first | omega | assumption | exact rfl) ?_); refine V _ ?_; clear V K0; simp only [put, app, aa, af, zE, zS, D])
          refine ah ?_
          refine hK39 _ ?_; clear hK39; refine ad [1, 2, 4, 5, 6, 8, 9, 10, 11, 59] ?_; simp only [U, lkp, zE, reduceCtorEq, E, Y, D]
          refine aA (by simp only [ev, U, lkp, zE, reduceCtorEq, E, Y, D]; exact rfl) (fun hc40 => ?_) (fun hc40 => ?_)
          ·(try simp only [zB, reduceCtorEq] at hc40)
           refine aI ?_
           refine hK38 _ ?_; clear hK38; refine ad [1, 2, 4, 5, 6, 8, 9, 10, 11, 59] ?_; simp only [U, lkp, zE, reduceCtorEq, E, Y, D]
           refine Z fun K41 hK41 => ?_
           refine aH ?_
           have hs9 : s < d.nx.length := by omega
           have hrl : ((d.nx.getD s []).length : Int) = d.inp := hd.rl s hs9
           have hcl : 0 ≤ (d.nx.getD s []).getD j 0 ∧ (d.nx.getD s []).getD j 0 < d.nx.length := hd.cl s j hs9 (by omega)
           have hx := fE (dX d r) (d.nx.getD s []) j; unfold MX1 at hx
           have hct := dX d r ((d.nx.getD s []).getD j 0).toNat; unfold MX1 at hct
           refine bY hP hN Try.mixed rfl ?_
           iterate 26 (refine ab rfl fun K0 V => ?_; simp only [zE, op1, ev, lkp, ai, ag, aF, zG, Ty.dflt, Ty.size, Nat.mul_one, ne_eq, not_false_eq_true, Int.natCast_one, Int.mul_one, ay, au, ax, acs, ao, aw, aC, aB, aD, ak, az, aO, aK, br, bf, aY, b0, bn, Nat.div_one, aP, ba, aM, dite_true, aX, am, aN, reduceCtorEq, E, D, J, S, M, O, Try.el22, Try.el26, Try.st25, Try.td2, Try.td22, Try.td25, Try.td26, Try.td3, Dfa.av, bV hs9, dJ, bG]; (repeat refine And.intro (by first | omega | assumption | exact rfl) ?_); (first | refine V _ ?_ | refine Or.inl (V _ ?_)); clear V K0; simp only [put, app, aa, af, zE, zS, D])
           refine ah ?_
           refine ⟨by kernel_rfl, ?_⟩
           refine hK41 _ ?_; clear hK41; refine ad [1, 2, 4, 5, 6, 8, 9, 10, 11, 59] ?_; simp only [U, lkp, zE, reduceCtorEq, E, Y, D]
           have hsum : df (cC d r) (d.nx.getD s []) (j + 1) = (df (cC d r) (d.nx.getD s []) j) + min ((cC d r).getD ((d.nx.getD s []).getD j 0).toNat 0) (4611686018427387905 - (df (cC d r) (d.nx.getD s []) j)) := by rw [eV (by omega)]; unfold MX1; omega
           refine ae hP hN rfl ?_
           iterate 3 (refine ab rfl fun K0 V => ?_; simp only [zE, op1, ev, lkp, ai, ag, aC, aB, aD, ak, az, aO, reduceCtorEq, E, D, J, S, M, O, Try.td3, Dfa.av]; (repeat refine And.intro (by first | omega | assumption | exact rfl) ?_); refine V _ ?_; clear V K0; simp only [put, app, aa, af, zE, zS, D])
           refine ah ?_
           refine ⟨_, _, ?_, aE [1, 2, 4, 5, 6, 8, 9, 10, 11], j + 1, by omega, rfl, ?_⟩
           · omega
           · rw [hsum, db hs9]; rfl
          ·(try simp only [zB, reduceCtorEq] at hc40)
           refine bg ?_
           refine hK35 _ ?_; clear hK35; refine ad [1, 2, 4, 5, 6, 8, 9, 10, 11, 59] ?_; simp only [U, lkp, zE, reduceCtorEq, E, Y, D]
           refine ae hP hN rfl ?_
           iterate 3 (refine ab rfl fun K0 V => ?_; simp only [zE, op1, ev, lkp, ai, ag, aC, aB, aD, ak, az, aO, reduceCtorEq, E, D, J, S, M, O, Try.td3, Dfa.av]; (repeat refine And.intro (by first | omega | assumption | exact rfl) ?_); refine V _ ?_; clear V K0; simp only [put, app, aa, af, zE, zS, D])
           refine ah ?_
           refine ⟨_, _, ?_, aE [1, 2, 4, 5, 6, 8, 9, 10], s + 1, by omega, rfl, ?_⟩
           · omega
           · rw [show (df (cC d r) (d.nx.getD s []) j) = eQ d (cC d r) s from by unfold eQ; rw [show j = (d.nx.getD s []).length by omega], cE]; rfl
        ·(try simp only [zB, reduceCtorEq] at hc34)
         refine bg ?_
         refine hK29 _ ?_; clear hK29; refine ad [1, 2, 4, 5, 6, 8, 9, 10, 53] ?_; simp only [U, lkp, zE, reduceCtorEq, E, Y, D]
         refine cD 1 rfl ?_; simp only [List.map_cons, List.map_nil, zS, E, and_self, and_true, true_and, and_false, false_and, if_true, if_false, eq_self, reduceCtorEq, Nat.one_ne_zero, Nat.zero_ne_one]
         have hs8 : s = d.nx.length := by omega
         rw [hs8, dR, show (List.range d.nx.length).map (eQ d (cC d r)) = cC d (r + 1) from rfl]
         refine ae hP hN rfl ?_
         iterate 2 (refine ab rfl fun K0 V => ?_; simp only [zE, op1, ev, lkp, ai, ag, ev, reduceCtorEq, E, D, J, S, M, O, Try.el26, Try.td26, Dfa.av]; refine V _ ?_; clear V K0; simp only [put, app, aa, af, zE, zS, D])
         refine ah ?_
         refine hK27 _ ?_; clear hK27; refine ad [1, 2, 4, 5, 6, 8, 9, 10, 53] ?_; simp only [U, lkp, zE, reduceCtorEq, E, Y, D]
         refine cK (n := 1) (L1 := [_]) rfl rfl (by rw [hB]; decide) rfl rfl ?_
         refine ae hP hN rfl ?_
         iterate 3 (refine ab rfl fun K0 V => ?_; simp only [zE, op1, ev, lkp, ai, ag, aC, aB, aD, ak, az, aO, reduceCtorEq, E, D, J, S, M, O, Try.td3, Dfa.av]; (repeat refine And.intro (by first | omega | assumption | exact rfl) ?_); refine V _ ?_; clear V K0; simp only [put, app, aa, af, zE, zS, D])
         refine ah ?_
         refine ⟨_, _, ?_, aE [1, 2, 4, 5, 6, 8], r + 1, by omega, rfl, rfl⟩
         omega
      ·(try simp only [zB, reduceCtorEq] at hc26)
       refine bg ?_
       refine hK21 _ ?_; clear hK21; refine ad [1, 2, 4, 5, 6, 8, 43] ?_; simp only [U, lkp, zE, reduceCtorEq, E, Y, D]
       refine Z fun K42 hK42 => ?_
       refine Z fun K43 hK43 => ?_
       have hr9 : r = n.toNat := by omega
       subst hr9
       refine ae hP hN rfl ?_
       iterate 6 (refine ab rfl fun K0 V => ?_; simp only [zE, op1, ev, lkp, ai, ag, aw, ay, Nat.mul_one, au, ax, acs, Ty.dflt, zG, ao, aF, Ty.size, ne_eq, not_false_eq_true, Int.natCast_one, Int.mul_one, aC, aB, aD, ak, az, aO, reduceCtorEq, E, D, J, S, M, O, Try.el26, Try.st25, Try.td1, Try.td25, Try.td26, Try.td3, Try.td4, Dfa.av, dJ]; (repeat refine And.intro (by first | omega | assumption | exact rfl) ?_); refine V _ ?_; clear V K0; simp only [put, app, aa, af, zE, zS, D])
       refine ah ?_
       refine hK43 _ ?_; clear hK43; refine ad [1, 2, 4, 5, 6, 8, 43, 93] ?_; simp only [U, lkp, zE, reduceCtorEq, E, Y, D]
       refine aA (by simp only [ev, U, lkp, zE, reduceCtorEq, E, Y, D]; exact rfl) (fun hc44 => ?_) (fun hc44 => ?_)
       ·(try simp only [zB, reduceCtorEq] at hc44)
        refine Z fun K45 hK45 => ?_
        refine ae hP hN rfl ?_
        iterate 2 (refine ab rfl fun K0 V => ?_; simp only [zE, op1, ev, lkp, ai, ag, ev, reduceCtorEq, E, D, J, S, M, O, Try.td3, Dfa.av]; refine V _ ?_; clear V K0; simp only [put, app, aa, af, zE, zS, D])
        refine ah ?_
        refine hK45 _ ?_; clear hK45; refine ad [1, 2, 4, 5, 6, 8, 43, 93] ?_; simp only [U, lkp, zE, reduceCtorEq, E, Y, D]
        refine aJ ?_
        refine ⟨by first | exact .inl rfl | exact .inr rfl, _, rfl, ?_⟩; simp only [fzV, fz1, fzC, List.map_cons, List.map_nil, U, lkp, zE, reduceCtorEq, E, Y, D, Dfa.av]
        refine VLE.of_eq ?_
        first
        | (have g9 := jn (n := n) (by assumption); obtain ⟨g1, g2⟩ := g9; rw [g1, g2])
        | (have g9 := jr hv (n := n) (by omega); obtain ⟨g1, g2⟩ := g9; rw [g1, g2])
        | (have g9 := jx hv (n := n) (by omega) (by assumption); obtain ⟨g1, g2⟩ := g9; rw [g1, g2])
        | (have g9 := gm hv (n := n) (by omega) (by omega); obtain ⟨g1, g2⟩ := g9; rw [g1, g2])
       ·(try simp only [zB, reduceCtorEq] at hc44)
        refine aI ?_
        refine hK42 _ ?_; clear hK42; refine ad [1, 2, 4, 5, 6, 8, 43, 93] ?_; simp only [U, lkp, zE, reduceCtorEq, E, Y, D]
        refine Z fun K46 hK46 => ?_
        refine ae hP hN rfl ?_
        iterate 7 (refine ab rfl fun K0 V => ?_; simp only [zE, op1, ev, lkp, ai, ag, aw, ay, Nat.mul_one, au, ax, acs, Ty.dflt, zG, ao, aF, Ty.size, ne_eq, not_false_eq_true, Int.natCast_one, Int.mul_one, reduceCtorEq, E, D, J, S, M, O, Try.el26, Try.st25, Try.td1, Try.td25, Try.td26, Try.td3, Dfa.av, dJ]; (repeat refine And.intro (by first | omega | assumption | exact rfl) ?_); refine V _ ?_; clear V K0; simp only [put, app, aa, af, zE, zS, D])
        refine ah ?_
        refine hK46 _ ?_; clear hK46; refine ad [1, 2, 4, 5, 6, 8, 43, 93] ?_; simp only [U, lkp, zE, reduceCtorEq, E, Y, D]
        refine aJ ?_
        refine ⟨by first | exact .inl rfl | exact .inr rfl, _, rfl, ?_⟩; simp only [fzV, fz1, fzC, List.map_cons, List.map_nil, U, lkp, zE, reduceCtorEq, E, Y, D, Dfa.av]
        refine VLE.of_eq ?_
        first
        | (have g9 := jn (n := n) (by assumption); obtain ⟨g1, g2⟩ := g9; rw [g1, g2])
        | (have g9 := jr hv (n := n) (by omega); obtain ⟨g1, g2⟩ := g9; rw [g1, g2])
        | (have g9 := jx hv (n := n) (by omega) (by assumption); obtain ⟨g1, g2⟩ := g9; rw [g1, g2])
        | (have g9 := gm hv (n := n) (by omega) (by omega); obtain ⟨g1, g2⟩ := g9; rw [g1, g2])
end Go.Proofs.Ytdkgcbhbpdbmnaa
namespace Go.AV
open Nat renaming reduceEqDiff → E, reduceAdd → D, reduceLeDiff → J, reduceLT → S, reduceMul → M, reduceSub → O
open List renaming set_cons_zero → ar, set_cons_succ → aq
/-plain-/
/-! On dmeqTh, dfmTh. -/
theorem jo (a : Dfa) : gp a a = true := jV.2 rfl
theorem tg {d : Dfa} (h : DOK d) : d.acc.length ≤ 1000 := by have := h.al; have := h.n2; omega
theorem sn (d : Dfa) : (fa d).acc.length ≤ 1000 := by
  by_cases h : bc d = 0
  · exact tg (pU (dx h))
  · rw [show fa d = cJ from if_neg h]; decide
end Go.AV
namespace Go.AV
open Nat renaming reduceEqDiff → E, reduceAdd → D, reduceLeDiff → J, reduceLT → S, reduceMul → M, reduceSub → O
open List renaming set_cons_zero → ar, set_cons_succ → aq
/-plain-/
/-! On drepTh. -/
theorem kF {d : Dfa} (hd : DOK d) {cl : List Int} {s t : Nat} (hs : s < d.nx.length) (ht : t < d.nx.length) (h1 : cl.getD s 0 = cl.getD t 0) (h2 : ∀ q : Nat, (q : Int) < d.inp → cl.getD ((d.nx.getD s []).getD q 0).toNat 0 = cl.getD ((d.nx.getD t []).getD q 0).toNat 0) : d.sg cl s = d.sg cl t :=
  (hQ hd hs ht).2 ⟨h1, fun a ha => by rw [dlN, dlN]; exact h2 a ha⟩
theorem mj {d : Dfa} (hd : DOK d) {cl : List Int} {s t q : Nat} (hs : s < d.nx.length) (ht : t < d.nx.length) (hq : (q : Int) < d.inp) (h2 : ¬ cl.getD ((d.nx.getD s []).getD q 0).toNat 0 = cl.getD ((d.nx.getD t []).getD q 0).toNat 0) : ¬ d.sg cl s = d.sg cl t := fun e => h2 (by
  have := ((hQ hd hs ht).1 e).2 q hq
  rw [dlN, dlN] at this; exact this)
theorem kb {d : Dfa} (hd : DOK d) {cl : List Int} {s t : Nat} (hs : s < d.nx.length) (ht : t < d.nx.length) (h2 : ¬ cl.getD s 0 = cl.getD t 0) : ¬ d.sg cl s = d.sg cl t := fun e => h2 ((hQ hd hs ht).1 e).1
end Go.AV
namespace Go.Proofs.Ytdkgcbhbpdbmnaa
open Go Go.AV
open Nat renaming reduceEqDiff → E, reduceAdd → D, reduceLeDiff → J, reduceLT → S, reduceMul → M, reduceSub → O
open List renaming set_cons_zero → ar, set_cons_succ → aq
set_option maxRecDepth 100000 in
theorem qH (d : Dfa) (cl : List Int) (s t : Nat) (hd : DOK d) (hs : s < d.nx.length) (ht : t < d.nx.length) (hcl : cl.length = d.nx.length) : bH Try.prog 67 [d.av, .one (.list (.int .i64) cl), .one (.int .i64 (s : Int)), .one (.int .i64 (t : Int))] (.one (.bool (decide (d.sg cl s = d.sg cl t)))) := by
 have hi2 := hd.i2; have hrs : ((d.nx.getD s []).length : Int) = d.inp := hd.rl s hs; have hrt : ((d.nx.getD t []).length : Int) = d.inp := hd.rl t ht
 refine aR Try.func67 rfl (by kernel_rfl) (Nat.le_of_ble_eq_true rfl) rfl fun C hP hN hB => ?_
 replace hN : C.N = 48 := hN
 simp only [Y, D]
 refine Z fun K1 hK1 => ?_
 refine ae hP hN rfl ?_
 iterate 2 (refine ab rfl fun K0 V => ?_; simp only [zE, op1, ev, lkp, ai, ag, ch, am, reduceCtorEq, E, D, J, S, M, O, Try.st25, Try.td25, Try.td4, Dfa.av, Int.toNat_natCast]; (repeat refine And.intro (by first | omega | assumption | exact rfl) ?_); refine V _ ?_; clear V K0; simp only [put, app, aa, af, zE, zS, D])
 refine ah ?_
 refine hK1 _ ?_; clear hK1; refine ad [0, 1, 2, 3, 4, 8] ?_; simp only [U, lkp, zE, reduceCtorEq, E, Y, D]
 refine Z fun K2 hK2 => ?_
 refine Z fun K3 hK3 => ?_
 refine bY hP hN Try.mixed rfl ?_
 iterate 9 (refine ab rfl fun K0 V => ?_; simp only [zE, op1, ev, lkp, ai, ag, aF, zG, Ty.dflt, Ty.size, Nat.mul_one, ne_eq, not_false_eq_true, Int.natCast_one, Int.mul_one, ay, au, ax, acs, ao, aC, aB, aD, ak, az, aO, reduceCtorEq, E, D, J, S, M, O, Try.el26, Try.td26, Try.td3, Try.td4, Dfa.av, Int.toNat_natCast]; (repeat refine And.intro (by first | omega | assumption | exact rfl) ?_); refine V _ ?_; clear V K0; simp only [put, app, aa, af, zE, zS, D])
 refine ah ?_
 refine ⟨by kernel_rfl, ?_⟩
 refine hK3 _ ?_; clear hK3; refine ad [0, 1, 2, 3, 4, 8, 18] ?_; simp only [U, lkp, zE, reduceCtorEq, E, Y, D]
 refine aA (by simp only [ev, U, lkp, zE, reduceCtorEq, E, Y, D]; exact rfl) (fun hc4 => ?_) (fun hc4 => ?_)
 ·(try simp only [zB, reduceCtorEq] at hc4)
  have hne : ¬ cl.getD s 0 = cl.getD t 0 := hc4
  refine Z fun K5 hK5 => ?_
  refine ae hP hN rfl ?_
  (refine ab rfl fun K0 V => ?_; simp only [zE, op1, ev, lkp, ai, ag, ev, reduceCtorEq, E, D, J, S, M, O, Try.td4, Dfa.av, Int.toNat_natCast]; refine V _ ?_; clear V K0; simp only [put, app, aa, af, zE, zS, D])
  refine ah ?_
  refine hK5 _ ?_; clear hK5; refine ad [0, 1, 2, 3, 4, 8, 18] ?_; simp only [U, lkp, zE, reduceCtorEq, E, Y, D]
  refine aJ ?_
  refine ⟨by first | exact .inl rfl | exact .inr rfl, _, rfl, ?_⟩; simp only [fzV, fz1, fzC, List.map_cons, List.map_nil, U, lkp, zE, reduceCtorEq, E, Y, D, Dfa.av, Int.toNat_natCast]
  refine VLE.of_eq ?_
  refine congrArg (fun b => AV.one (AC.bool b)) ?_
  symm
  first
  | exact decide_eq_false (kb hd hs ht hne)
  | exact decide_eq_false (mj hd hs ht (by omega) hnk)
  | exact decide_eq_true (kF hd hs ht he0 fun q hq2 => hq q (by omega))
 ·(try simp only [zB, reduceCtorEq] at hc4)
  have he0 : cl.getD s 0 = cl.getD t 0 := hc4
  refine aI ?_
  refine hK2 _ ?_; clear hK2; refine ad [0, 1, 2, 3, 4, 8, 18] ?_; simp only [U, lkp, zE, reduceCtorEq, E, Y, D]
  refine Z fun K6 hK6 => ?_
  refine Z fun K7 hK7 => ?_
  refine ae hP hN rfl ?_
  (refine ab rfl fun K0 V => ?_; simp only [zE, op1, ev, lkp, ai, ag, ev, reduceCtorEq, E, D, J, S, M, O, Try.td3, Dfa.av, Int.toNat_natCast]; refine V _ ?_; clear V K0; simp only [put, app, aa, af, zE, zS, D])
  refine ah ?_
  refine hK7 _ ?_; clear hK7; refine ad [0, 1, 2, 3, 4, 8, 9, 18] ?_; simp only [U, lkp, zE, reduceCtorEq, E, Y, D]
  refine aH ?_
  refine bj (fun n8 s8 => ∃ (k : Nat), ((k : Int) ≤ d.inp) ∧ (∀ q : Nat, q < k → cl.getD ((d.nx.getD s []).getD q 0).toNat 0 = cl.getD ((d.nx.getD t []).getD q 0).toNat 0) ∧ n8 = d.inp.toNat - k ∧ s8 = { env := [(1, .one (.list (.int .i64) cl)), (2, .one (.int .i64 (s : Int))), (3, .one (.int .i64 (t : Int))), (4, .one (.ptr 0 0 0 0)), (8, .one (.bool false)), (9, .one (.int .i64 (k : Int)))], L := [.vars 25 [.int .i64 d.inp, .int .i64 d.st, .list (.list (.int .i64)) d.nx, .list .bool d.acc]] }) ?_ ?_
  ·exact ⟨_, _, aE [1, 2, 3, 4, 8, 9], 0, by omega, fun q hq => by omega, rfl, rfl⟩
  ·rintro n8 s8 ⟨k, hk, hq, rfl, rfl⟩
   refine Z fun K9 hK9 => ?_
   refine Z fun K10 hK10 => ?_
   refine ae hP hN rfl ?_
   iterate 4 (refine ab rfl fun K0 V => ?_; simp only [zE, op1, ev, lkp, ai, ag, aw, ay, Nat.mul_one, au, ax, acs, Ty.dflt, zG, ao, aC, aB, aD, ak, az, aO, reduceCtorEq, E, D, J, S, M, O, Try.st25, Try.td25, Try.td3, Try.td4, Dfa.av, Int.toNat_natCast]; (repeat refine And.intro (by first | omega | assumption | exact rfl) ?_); refine V _ ?_; clear V K0; simp only [put, app, aa, af, zE, zS, D])
   refine ah ?_
   refine hK10 _ ?_; clear hK10; refine ad [1, 2, 3, 4, 8, 9, 22] ?_; simp only [U, lkp, zE, reduceCtorEq, E, Y, D]
   refine aA (by simp only [ev, U, lkp, zE, reduceCtorEq, E, Y, D]; exact rfl) (fun hc11 => ?_) (fun hc11 => ?_)
   ·(try simp only [zB, reduceCtorEq] at hc11)
    refine aI ?_
    refine hK9 _ ?_; clear hK9; refine ad [1, 2, 3, 4, 8, 9, 22] ?_; simp only [U, lkp, zE, reduceCtorEq, E, Y, D]
    refine Z fun K12 hK12 => ?_
    refine aH ?_
    refine Z fun K13 hK13 => ?_
    have hcs : 0 ≤ (d.nx.getD s []).getD k 0 ∧ (d.nx.getD s []).getD k 0 < d.nx.length := hd.cl s k hs (by omega)
    have hct : 0 ≤ (d.nx.getD t []).getD k 0 ∧ (d.nx.getD t []).getD k 0 < d.nx.length := hd.cl t k ht (by omega)
    refine bY hP hN Try.mixed rfl ?_
    iterate 23 (refine ab rfl fun K0 V => ?_; simp only [zE, op1, ev, lkp, ai, ag, aw, ay, Nat.mul_one, au, ax, acs, Ty.dflt, zG, ao, aF, Ty.size, ne_eq, not_false_eq_true, Int.natCast_one, Int.mul_one, aC, aB, aD, ak, az, aO, reduceCtorEq, E, D, J, S, M, O, Try.el22, Try.el26, Try.st25, Try.td2, Try.td22, Try.td25, Try.td26, Try.td3, Try.td4, Dfa.av, Int.toNat_natCast]; (repeat refine And.intro (by first | omega | assumption | exact rfl) ?_); refine V _ ?_; clear V K0; simp only [put, app, aa, af, zE, zS, D])
    refine ah ?_
    refine ⟨by kernel_rfl, ?_⟩
    refine hK13 _ ?_; clear hK13; refine ad [1, 2, 3, 4, 8, 9, 22, 47] ?_; simp only [U, lkp, zE, reduceCtorEq, E, Y, D]
    refine aA (by simp only [ev, U, lkp, zE, reduceCtorEq, E, Y, D]; exact rfl) (fun hc14 => ?_) (fun hc14 => ?_)
    ·(try simp only [zB, reduceCtorEq] at hc14)
     have hnk : ¬ cl.getD ((d.nx.getD s []).getD k 0).toNat 0 = cl.getD ((d.nx.getD t []).getD k 0).toNat 0 := hc14
     refine Z fun K15 hK15 => ?_
     refine ae hP hN rfl ?_
     (refine ab rfl fun K0 V => ?_; simp only [zE, op1, ev, lkp, ai, ag, ev, reduceCtorEq, E, D, J, S, M, O, Try.td4, Dfa.av, Int.toNat_natCast]; refine V _ ?_; clear V K0; simp only [put, app, aa, af, zE, zS, D])
     refine ah ?_
     refine hK15 _ ?_; clear hK15; refine ad [1, 2, 3, 4, 8, 9, 22, 47] ?_; simp only [U, lkp, zE, reduceCtorEq, E, Y, D]
     refine aJ ?_
     refine ⟨by first | exact .inl rfl | exact .inr rfl, _, rfl, ?_⟩; simp only [fzV, fz1, fzC, List.map_cons, List.map_nil, U, lkp, zE, reduceCtorEq, E, Y, D, Dfa.av, Int.toNat_natCast]
     refine VLE.of_eq ?_
     refine congrArg (fun b => AV.one (AC.bool b)) ?_
     symm
     first
     | exact decide_eq_false (kb hd hs ht hne)
     | exact decide_eq_false (mj hd hs ht (by omega) hnk)
     | exact decide_eq_true (kF hd hs ht he0 fun q hq2 => hq q (by omega))
    ·(try simp only [zB, reduceCtorEq] at hc14)
     have hek : cl.getD ((d.nx.getD s []).getD k 0).toNat 0 = cl.getD ((d.nx.getD t []).getD k 0).toNat 0 := hc14
     refine aI ?_
     refine hK12 _ ?_; clear hK12; refine ad [1, 2, 3, 4, 8, 9, 22, 47] ?_; simp only [U, lkp, zE, reduceCtorEq, E, Y, D]
     refine ae hP hN rfl ?_
     iterate 3 (refine ab rfl fun K0 V => ?_; simp only [zE, op1, ev, lkp, ai, ag, aC, aB, aD, ak, az, aO, reduceCtorEq, E, D, J, S, M, O, Try.td3, Dfa.av, Int.toNat_natCast]; (repeat refine And.intro (by first | omega | assumption | exact rfl) ?_); refine V _ ?_; clear V K0; simp only [put, app, aa, af, zE, zS, D])
     refine ah ?_
     refine ⟨_, _, ?_, aE [1, 2, 3, 4, 8, 9], k + 1, by omega, fun q hq2 => ?_, rfl, rfl⟩
     · omega
     · by_cases e : q = k
       · rw [e]; exact hek
       · exact hq q (by omega)
   ·(try simp only [zB, reduceCtorEq] at hc11)
    refine bg ?_
    refine hK6 _ ?_; clear hK6; refine ad [1, 2, 3, 4, 8, 9, 22] ?_; simp only [U, lkp, zE, reduceCtorEq, E, Y, D]
    refine Z fun K16 hK16 => ?_
    refine ae hP hN rfl ?_
    (refine ab rfl fun K0 V => ?_; simp only [zE, op1, ev, lkp, ai, ag, ev, reduceCtorEq, E, D, J, S, M, O, Try.td4, Dfa.av, Int.toNat_natCast]; refine V _ ?_; clear V K0; simp only [put, app, aa, af, zE, zS, D])
    refine ah ?_
    refine hK16 _ ?_; clear hK16; refine ad [1, 2, 3, 4, 8, 9, 22] ?_; simp only [U, lkp, zE, reduceCtorEq, E, Y, D]
    refine aJ ?_
    refine ⟨by first | exact .inl rfl | exact .inr rfl, _, rfl, ?_⟩; simp only [fzV, fz1, fzC, List.map_cons, List.map_nil, U, lkp, zE, reduceCtorEq, E, Y, D, Dfa.av, Int.toNat_natCast]
    refine VLE.of_eq ?_
    refine congrArg (fun b => AV.one (AC.bool b)) ?_
    symm
    first
    | exact decide_eq_false (kb hd hs ht hne)
    | exact decide_eq_false (mj hd hs ht (by omega) hnk)
    | exact decide_eq_true (kF hd hs ht he0 fun q hq2 => hq q (by omega))
end Go.Proofs.Ytdkgcbhbpdbmnaa
namespace Go.Proofs.Ytdkgcbhbpdbmnaa
open Go Go.AV
open Nat renaming reduceEqDiff → E, reduceAdd → D, reduceLeDiff → J, reduceLT → S, reduceMul → M, reduceSub → O
open List renaming set_cons_zero → ar, set_cons_succ → aq
set_option maxRecDepth 100000 in
theorem pY (op : Int) (x y : Bool) : bH Try.prog 61 [.one (.int .i64 op), .one (.bool x), .one (.bool y)] (.one (.bool (opB op x y))) := by
 refine aR Try.func61 rfl (by kernel_rfl) (Nat.le_of_ble_eq_true rfl) rfl fun C hP hN hB => ?_
 replace hN : C.N = 30 := hN
 simp only [Y, D]
 refine Z fun K1 hK1 => ?_
 refine ae hP hN rfl ?_
 (refine ab rfl fun K0 V => ?_; simp only [zE, op1, ev, lkp, ai, ag, ev, reduceCtorEq, E, D, J, S, M, O, Try.td4]; refine V _ ?_; clear V K0; simp only [put, app, aa, af, zE, zS, D])
 refine ah ?_
 refine hK1 _ ?_; clear hK1; refine ad [0, 1, 2, 6] ?_; simp only [U, lkp, zE, reduceCtorEq, E, Y, D]
 refine Z fun K2 hK2 => ?_
 refine Z fun K3 hK3 => ?_
 refine ae hP hN rfl ?_
 (refine ab rfl fun K0 V => ?_; simp only [zE, op1, ev, lkp, ai, ag, ev, reduceCtorEq, E, D, J, S, M, O, Try.td3]; refine V _ ?_; clear V K0; simp only [put, app, aa, af, zE, zS, D])
 refine ah ?_
 refine hK3 _ ?_; clear hK3; refine ad [0, 1, 2, 6, 7] ?_; simp only [U, lkp, zE, reduceCtorEq, E, Y, D]
 refine aH ?_
 refine Z fun K4 hK4 => ?_
 refine ae hP hN rfl ?_
 iterate 2 (refine ab rfl fun K0 V => ?_; simp only [zE, op1, ev, lkp, ai, ag, aC, aB, aD, ak, az, aO, reduceCtorEq, E, D, J, S, M, O, Try.td3, Try.td4]; (repeat refine And.intro (by first | omega | assumption | exact rfl) ?_); refine V _ ?_; clear V K0; simp only [put, app, aa, af, zE, zS, D])
 refine ah ?_
 refine hK4 _ ?_; clear hK4; refine ad [0, 1, 2, 6, 7, 8] ?_; simp only [U, lkp, zE, reduceCtorEq, E, Y, D]
 refine aA (by simp only [ev, U, lkp, zE, reduceCtorEq, E, Y, D]; exact rfl) (fun hc5 => ?_) (fun hc5 => ?_)
 ·(try simp only [zB, reduceCtorEq] at hc5)
  refine Z fun K6 hK6 => ?_
  refine ae hP hN rfl ?_
  (refine ab rfl fun K0 V => ?_; simp only [zE, op1, ev, lkp, ai, ag, ev, reduceCtorEq, E, D, J, S, M, O, Try.td4]; refine V _ ?_; clear V K0; simp only [put, app, aa, af, zE, zS, D])
  (refine ab rfl fun K0 V => ?_; simp only [zE, op1, ev, lkp, ai, ag, ev, reduceCtorEq, E, D, J, S, M, O, Try.td4]; refine V _ ?_; clear V K0; simp only [put, app, aa, af, zE, zS, D])
  refine' aU (want := true) 1 rfl (m := 11) (by simp only [U, lkp, zE, reduceCtorEq, E, Y, D]; exact rfl) (by kernel_rfl) rfl rfl rfl rfl rfl (fun hg7 => ?a7) ?b7 ?c7
  case a7 =>
   have hq7 := hg7; (try simp only [zB, reduceCtorEq] at hg7); simp only [List.take_succ_cons, List.take_zero, List.cons_append, List.nil_append]
   (refine aL rfl fun K0 V => ?_; simp only [zE, op1, ev, lkp, ai, ag, ev, reduceCtorEq, E, D, J, S, M, O, Try.td4]; refine V _ ?_; clear V K0; simp only [put, app, aa, af, zE, zS, D])
   (refine ab rfl fun K0 V => ?_; simp only [zE, op1, ev, lkp, ai, ag, bq, reduceCtorEq, E, D, J, S, M, O, Try.td4]; refine V _ ?_; clear V K0; simp only [put, app, aa, af, zE, zS, D])
   refine ah ?_
   refine ⟨by simp only [U, lkp, zE, reduceCtorEq, E, Y, D]; exact rfl, rfl, ?_, rfl⟩; (repeat refine aV rfl ?_); exact bu (by exact rfl) hq7
  case b7 => exact bt (by first | rfl | (simp [c0]; done) | decide)
  simp only [bm, bb]
  (refine ab rfl fun K0 V => ?_; simp only [zE, op1, ev, lkp, ai, ag, ev, reduceCtorEq, E, D, J, S, M, O, Try.td4]; refine V _ ?_; clear V K0; simp only [put, app, aa, af, zE, zS, D])
  refine ah ?_
  refine hK6 _ ?_; clear hK6; refine ad [0, 1, 2, 6, 7, 8] ?_; simp only [U, lkp, zE, reduceCtorEq, E, Y, D]
  refine aJ ?_
  refine ⟨by first | exact .inl rfl | exact .inr rfl, _, rfl, ?_⟩; simp only [fzV, fz1, fzC, List.map_cons, List.map_nil, U, lkp, zE, reduceCtorEq, E, Y, D]
  refine VLE.of_eq ?_
  refine congrArg (fun b => AV.one (AC.bool b)) ?_
  unfold opB
  symm
  first
  | (rw [if_pos (by assumption)]; done)
  | (rw [if_neg (by assumption), if_pos (by assumption)]; done)
  | (rw [if_neg (by assumption), if_neg (by assumption), if_pos (by assumption)]; done)
  | (rw [if_neg (by assumption), if_neg (by assumption), if_neg (by assumption)]; cases x <;> cases y <;> rfl)
 ·(try simp only [zB, reduceCtorEq] at hc5)
  refine Z fun K8 hK8 => ?_
  refine ae hP hN rfl ?_
  iterate 2 (refine ab rfl fun K0 V => ?_; simp only [zE, op1, ev, lkp, ai, ag, aC, aB, aD, ak, az, aO, reduceCtorEq, E, D, J, S, M, O, Try.td3, Try.td4]; (repeat refine And.intro (by first | omega | assumption | exact rfl) ?_); refine V _ ?_; clear V K0; simp only [put, app, aa, af, zE, zS, D])
  refine ah ?_
  refine hK8 _ ?_; clear hK8; refine ad [0, 1, 2, 6, 7, 8, 14] ?_; simp only [U, lkp, zE, reduceCtorEq, E, Y, D]
  refine aA (by simp only [ev, U, lkp, zE, reduceCtorEq, E, Y, D]; exact rfl) (fun hc9 => ?_) (fun hc9 => ?_)
  ·(try simp only [zB, reduceCtorEq] at hc9)
   refine Z fun K10 hK10 => ?_
   refine ae hP hN rfl ?_
   (refine ab rfl fun K0 V => ?_; simp only [zE, op1, ev, lkp, ai, ag, ev, reduceCtorEq, E, D, J, S, M, O, Try.td4]; refine V _ ?_; clear V K0; simp only [put, app, aa, af, zE, zS, D])
   (refine ab rfl fun K0 V => ?_; simp only [zE, op1, ev, lkp, ai, ag, ev, reduceCtorEq, E, D, J, S, M, O, Try.td4]; refine V _ ?_; clear V K0; simp only [put, app, aa, af, zE, zS, D])
   refine' aU (want := false) 1 rfl (m := 17) (by simp only [U, lkp, zE, reduceCtorEq, E, Y, D]; exact rfl) (by kernel_rfl) rfl rfl rfl rfl rfl (fun hg11 => ?a11) ?b11 ?c11
   case a11 =>
    have hq11 := hg11; (try simp only [zB, reduceCtorEq] at hg11); simp only [List.take_succ_cons, List.take_zero, List.cons_append, List.nil_append]
    (refine aL rfl fun K0 V => ?_; simp only [zE, op1, ev, lkp, ai, ag, ev, reduceCtorEq, E, D, J, S, M, O, Try.td4]; refine V _ ?_; clear V K0; simp only [put, app, aa, af, zE, zS, D])
    (refine ab rfl fun K0 V => ?_; simp only [zE, op1, ev, lkp, ai, ag, bq, reduceCtorEq, E, D, J, S, M, O, Try.td4]; refine V _ ?_; clear V K0; simp only [put, app, aa, af, zE, zS, D])
    refine ah ?_
    refine ⟨by simp only [U, lkp, zE, reduceCtorEq, E, Y, D]; exact rfl, rfl, ?_, rfl⟩; (repeat refine aV rfl ?_); exact bu (by exact rfl) hq11
   case b11 => exact bt (by first | rfl | (simp [c0]; done) | decide)
   simp only [bm, bb]
   (refine ab rfl fun K0 V => ?_; simp only [zE, op1, ev, lkp, ai, ag, ev, reduceCtorEq, E, D, J, S, M, O, Try.td4]; refine V _ ?_; clear V K0; simp only [put, app, aa, af, zE, zS, D])
   refine ah ?_
   refine hK10 _ ?_; clear hK10; refine ad [0, 1, 2, 6, 7, 8, 14] ?_; simp only [U, lkp, zE, reduceCtorEq, E, Y, D]
   refine aJ ?_
   refine ⟨by first | exact .inl rfl | exact .inr rfl, _, rfl, ?_⟩; simp only [fzV, fz1, fzC, List.map_cons, List.map_nil, U, lkp, zE, reduceCtorEq, E, Y, D]
   refine VLE.of_eq ?_
   refine congrArg (fun b => AV.one (AC.bool b)) ?_
   unfold opB
   symm
   first
   | (rw [if_pos (by assumption)]; done)
   | (rw [if_neg (by assumption), if_pos (by assumption)]; done)
   | (rw [if_neg (by assumption), if_neg (by assumption), if_pos (by assumption)]; done)
   | (rw [if_neg (by assumption), if_neg (by assumption), if_neg (by assumption)]; cases x <;> cases y <;> rfl)
  ·(try simp only [zB, reduceCtorEq] at hc9)
   refine Z fun K12 hK12 => ?_
   refine ae hP hN rfl ?_
   iterate 2 (refine ab rfl fun K0 V => ?_; simp only [zE, op1, ev, lkp, ai, ag, aC, aB, aD, ak, az, aO, reduceCtorEq, E, D, J, S, M, O, Try.td3, Try.td4]; (repeat refine And.intro (by first | omega | assumption | exact rfl) ?_); refine V _ ?_; clear V K0; simp only [put, app, aa, af, zE, zS, D])
   refine ah ?_
   refine hK12 _ ?_; clear hK12; refine ad [0, 1, 2, 6, 7, 8, 14, 20] ?_; simp only [U, lkp, zE, reduceCtorEq, E, Y, D]
   refine aA (by simp only [ev, U, lkp, zE, reduceCtorEq, E, Y, D]; exact rfl) (fun hc13 => ?_) (fun hc13 => ?_)
   ·(try simp only [zB, reduceCtorEq] at hc13)
    refine Z fun K14 hK14 => ?_
    refine ae hP hN rfl ?_
    (refine ab rfl fun K0 V => ?_; simp only [zE, op1, ev, lkp, ai, ag, ev, reduceCtorEq, E, D, J, S, M, O, Try.td4]; refine V _ ?_; clear V K0; simp only [put, app, aa, af, zE, zS, D])
    (refine ab rfl fun K0 V => ?_; simp only [zE, op1, ev, lkp, ai, ag, ev, reduceCtorEq, E, D, J, S, M, O, Try.td4]; refine V _ ?_; clear V K0; simp only [put, app, aa, af, zE, zS, D])
    refine' aU (want := true) 2 rfl (m := 23) (by simp only [U, lkp, zE, reduceCtorEq, E, Y, D]; exact rfl) (by kernel_rfl) rfl rfl rfl rfl rfl (fun hg15 => ?a15) ?b15 ?c15
    case a15 =>
     have hq15 := hg15; (try simp only [zB, reduceCtorEq] at hg15); simp only [List.take_succ_cons, List.take_zero, List.cons_append, List.nil_append]
     (refine aL rfl fun K0 V => ?_; simp only [zE, op1, ev, lkp, ai, ag, ev, reduceCtorEq, E, D, J, S, M, O, Try.td4]; refine V _ ?_; clear V K0; simp only [put, app, aa, af, zE, zS, D])
     (refine aL rfl fun K0 V => ?_; simp only [zE, op1, ev, lkp, ai, ag, gb, reduceCtorEq, E, D, J, S, M, O, Try.td4]; (repeat refine And.intro (by first | omega | assumption | exact rfl) ?_); refine V _ ?_; clear V K0; simp only [put, app, aa, af, zE, zS, D])
     (refine ab rfl fun K0 V => ?_; simp only [zE, op1, ev, lkp, ai, ag, bq, reduceCtorEq, E, D, J, S, M, O, Try.td4]; refine V _ ?_; clear V K0; simp only [put, app, aa, af, zE, zS, D])
     refine ah ?_
     refine ⟨by simp only [U, lkp, zE, reduceCtorEq, E, Y, D]; exact rfl, rfl, ?_, rfl⟩; (repeat refine aV rfl ?_); exact bu (by exact rfl) hq15
    case b15 => exact bt (by first | rfl | (simp [c0]; done) | decide)
    simp only [bm, bb]
    (refine ab rfl fun K0 V => ?_; simp only [zE, op1, ev, lkp, ai, ag, ev, reduceCtorEq, E, D, J, S, M, O, Try.td4]; refine V _ ?_; clear V K0; simp only [put, app, aa, af, zE, zS, D])
    refine ah ?_
    refine hK14 _ ?_; clear hK14; refine ad [0, 1, 2, 6, 7, 8, 14, 20] ?_; simp only [U, lkp, zE, reduceCtorEq, E, Y, D]
    refine aJ ?_
    refine ⟨by first | exact .inl rfl | exact .inr rfl, _, rfl, ?_⟩; simp only [fzV, fz1, fzC, List.map_cons, List.map_nil, U, lkp, zE, reduceCtorEq, E, Y, D]
    refine VLE.of_eq ?_
    refine congrArg (fun b => AV.one (AC.bool b)) ?_
    unfold opB
    symm
    first
    | (rw [if_pos (by assumption)]; done)
    | (rw [if_neg (by assumption), if_pos (by assumption)]; done)
    | (rw [if_neg (by assumption), if_neg (by assumption), if_pos (by assumption)]; done)
    | (rw [if_neg (by assumption), if_neg (by assumption), if_neg (by assumption)]; cases x <;> cases y <;> rfl)
   ·(try simp only [zB, reduceCtorEq] at hc13)
    refine aI ?_
    refine hK2 _ ?_; clear hK2; refine ad [0, 1, 2, 6, 7, 8, 14, 20] ?_; simp only [U, lkp, zE, reduceCtorEq, E, Y, D]
    refine Z fun K16 hK16 => ?_
    refine ae hP hN rfl ?_
    iterate 4 (refine ab rfl fun K0 V => ?_; simp only [zE, op1, ev, lkp, ai, ag, aC, aB, aD, ak, az, aO, reduceCtorEq, E, D, J, S, M, O, Try.td4]; (repeat refine And.intro (by first | omega | assumption | exact rfl) ?_); refine V _ ?_; clear V K0; simp only [put, app, aa, af, zE, zS, D])
    refine ah ?_
    refine hK16 _ ?_; clear hK16; refine ad [0, 1, 2, 6, 7, 8, 14, 20] ?_; simp only [U, lkp, zE, reduceCtorEq, E, Y, D]
    refine aJ ?_
    refine ⟨by first | exact .inl rfl | exact .inr rfl, _, rfl, ?_⟩; simp only [fzV, fz1, fzC, List.map_cons, List.map_nil, U, lkp, zE, reduceCtorEq, E, Y, D]
    refine VLE.of_eq ?_
    refine congrArg (fun b => AV.one (AC.bool b)) ?_
    unfold opB
    symm
    first
    | (rw [if_pos (by assumption)]; done)
    | (rw [if_neg (by assumption), if_pos (by assumption)]; done)
    | (rw [if_neg (by assumption), if_neg (by assumption), if_pos (by assumption)]; done)
    | (rw [if_neg (by assumption), if_neg (by assumption), if_neg (by assumption)]; cases x <;> cases y <;> rfl)
end Go.Proofs.Ytdkgcbhbpdbmnaa
namespace Go.Proofs.Ytdkgcbhbpdbmnaa
open Go Go.AV
open Nat renaming reduceEqDiff → E, reduceAdd → D, reduceLeDiff → J, reduceLT → S, reduceMul → M, reduceSub → O
open List renaming set_cons_zero → ar, set_cons_succ → aq
set_option maxRecDepth 100000 in
theorem pK (a b : Dfa) : bH Try.prog 59 [a.av, b.av] (.one (.int .i64 (d4 a b))) := by
 refine aR Try.func59 rfl (by kernel_rfl) (Nat.le_of_ble_eq_true rfl) rfl fun C hP hN hB => ?_
 replace hN : C.N = 23 := hN
 simp only [Y, D]
 refine Z fun K1 hK1 => ?_
 refine ae hP hN rfl ?_
 iterate 3 (refine ab rfl fun K0 V => ?_; simp only [zE, op1, ev, lkp, ai, ag, ch, am, reduceCtorEq, E, D, J, S, M, O, Try.st25, Try.td25, Try.td3, Dfa.av]; (repeat refine And.intro (by first | omega | assumption | exact rfl) ?_); refine V _ ?_; clear V K0; simp only [put, app, aa, af, zE, zS, D])
 refine ah ?_
 refine hK1 _ ?_; clear hK1; refine ad [0, 1, 2, 3, 4] ?_; simp only [U, lkp, zE, reduceCtorEq, E, Y, D]
 refine Z fun K2 hK2 => ?_
 refine aH ?_
 refine Z fun K3 hK3 => ?_
 refine ae hP hN rfl ?_
 (refine ab rfl fun K0 V => ?_; simp only [zE, op1, ev, lkp, ai, ag, ay, Nat.mul_one, au, ax, acs, Ty.dflt, zG, ao, reduceCtorEq, E, D, J, S, M, O, Try.st25, Try.td25, Dfa.av]; (repeat refine And.intro (by first | omega | assumption | exact rfl) ?_); refine V _ ?_; clear V K0; simp only [put, app, aa, af, zE, zS, D])
 refine ab rfl fun K0 V => ?_
 refine aS (h := aG (ec a)) rfl rfl (by first | exact rfl | (simp only [ev, U, lkp, zE, reduceCtorEq, E, Y, D]; exact rfl)) (by simp only [zE, zG, op1, ev, lkp, ai, ag, am, acs, be, mv1, mvC, Ty.dflt, reduceCtorEq, E, D, J, S, M, O, Dfa.av]) ?_
 refine V _ ?_; clear V K0; simp only [put, app, aa, af, zE, zS, D]
 iterate 2 (refine ab rfl fun K0 V => ?_; simp only [zE, op1, ev, lkp, ai, ag, aC, aB, aD, ak, az, aO, reduceCtorEq, E, D, J, S, M, O, Try.td3, Try.td4, Dfa.av]; (repeat refine And.intro (by first | omega | assumption | exact rfl) ?_); refine V _ ?_; clear V K0; simp only [put, app, aa, af, zE, zS, D])
 refine ah ?_
 refine hK3 _ ?_; clear hK3; refine ad [0, 1, 2, 3, 4, 5] ?_; simp only [U, lkp, zE, reduceCtorEq, E, Y, D]
 refine aA (by simp only [ev, U, lkp, zE, reduceCtorEq, E, Y, D]; exact rfl) (fun hc4 => ?_) (fun hc4 => ?_)
 ·(try simp only [zB, reduceCtorEq] at hc4)
  refine Z fun K5 hK5 => ?_
  refine ae hP hN rfl ?_
  (refine ab rfl fun K0 V => ?_; simp only [zE, op1, ev, lkp, ai, ag, ay, Nat.mul_one, au, ax, acs, Ty.dflt, zG, ao, reduceCtorEq, E, D, J, S, M, O, Try.st25, Try.td25, Dfa.av]; (repeat refine And.intro (by first | omega | assumption | exact rfl) ?_); refine V _ ?_; clear V K0; simp only [put, app, aa, af, zE, zS, D])
  refine ab rfl fun K0 V => ?_
  refine aS (h := aG (ec a)) rfl rfl (by first | exact rfl | (simp only [ev, U, lkp, zE, reduceCtorEq, E, Y, D]; exact rfl)) (by simp only [zE, zG, op1, ev, lkp, ai, ag, am, acs, be, mv1, mvC, Ty.dflt, reduceCtorEq, E, D, J, S, M, O, Dfa.av]) ?_
  refine V _ ?_; clear V K0; simp only [put, app, aa, af, zE, zS, D]
  (refine ab rfl fun K0 V => ?_; simp only [zE, op1, ev, lkp, ai, ag, ev, reduceCtorEq, E, D, J, S, M, O, Try.td3, Dfa.av]; refine V _ ?_; clear V K0; simp only [put, app, aa, af, zE, zS, D])
  refine ah ?_
  refine hK5 _ ?_; clear hK5; refine ad [0, 1, 2, 3, 4, 5] ?_; simp only [U, lkp, zE, reduceCtorEq, E, Y, D]
  refine aJ ?_
  refine ⟨by first | exact .inl rfl | exact .inr rfl, _, rfl, ?_⟩; simp only [fzV, fz1, fzC, List.map_cons, List.map_nil, U, lkp, zE, reduceCtorEq, E, Y, D, Dfa.av]
  refine VLE.of_eq ?_
  refine congrArg (fun n => AV.one (AC.int IntKind.i64 n)) ?_
  unfold d4
  symm
  first
  | (rw [if_neg (by assumption)]; done)
  | (rw [if_pos (by omega), if_neg (by assumption)]; done)
  | (rw [if_pos (by omega), if_pos (by omega), if_neg (by omega)]; done)
  | (rw [if_pos (by omega), if_pos (by omega), if_pos (by omega)]; done)
 ·(try simp only [zB, reduceCtorEq] at hc4)
  refine Z fun K6 hK6 => ?_
  refine ae hP hN rfl ?_
  (refine ab rfl fun K0 V => ?_; simp only [zE, op1, ev, lkp, ai, ag, ay, Nat.mul_one, au, ax, acs, Ty.dflt, zG, ao, reduceCtorEq, E, D, J, S, M, O, Try.st25, Try.td25, Dfa.av]; (repeat refine And.intro (by first | omega | assumption | exact rfl) ?_); refine V _ ?_; clear V K0; simp only [put, app, aa, af, zE, zS, D])
  refine ab rfl fun K0 V => ?_
  refine aS (h := aG (ec b)) rfl rfl (by first | exact rfl | (simp only [ev, U, lkp, zE, reduceCtorEq, E, Y, D]; exact rfl)) (by simp only [zE, zG, op1, ev, lkp, ai, ag, am, acs, be, mv1, mvC, Ty.dflt, reduceCtorEq, E, D, J, S, M, O, Dfa.av]) ?_
  refine V _ ?_; clear V K0; simp only [put, app, aa, af, zE, zS, D]
  iterate 2 (refine ab rfl fun K0 V => ?_; simp only [zE, op1, ev, lkp, ai, ag, aC, aB, aD, ak, az, aO, reduceCtorEq, E, D, J, S, M, O, Try.td3, Try.td4, Dfa.av]; (repeat refine And.intro (by first | omega | assumption | exact rfl) ?_); refine V _ ?_; clear V K0; simp only [put, app, aa, af, zE, zS, D])
  refine ah ?_
  refine hK6 _ ?_; clear hK6; refine ad [0, 1, 2, 3, 4, 5, 11] ?_; simp only [U, lkp, zE, reduceCtorEq, E, Y, D]
  refine aA (by simp only [ev, U, lkp, zE, reduceCtorEq, E, Y, D]; exact rfl) (fun hc7 => ?_) (fun hc7 => ?_)
  ·(try simp only [zB, reduceCtorEq] at hc7)
   refine Z fun K8 hK8 => ?_
   refine ae hP hN rfl ?_
   (refine ab rfl fun K0 V => ?_; simp only [zE, op1, ev, lkp, ai, ag, ay, Nat.mul_one, au, ax, acs, Ty.dflt, zG, ao, reduceCtorEq, E, D, J, S, M, O, Try.st25, Try.td25, Dfa.av]; (repeat refine And.intro (by first | omega | assumption | exact rfl) ?_); refine V _ ?_; clear V K0; simp only [put, app, aa, af, zE, zS, D])
   refine ab rfl fun K0 V => ?_
   refine aS (h := aG (ec b)) rfl rfl (by first | exact rfl | (simp only [ev, U, lkp, zE, reduceCtorEq, E, Y, D]; exact rfl)) (by simp only [zE, zG, op1, ev, lkp, ai, ag, am, acs, be, mv1, mvC, Ty.dflt, reduceCtorEq, E, D, J, S, M, O, Dfa.av]) ?_
   refine V _ ?_; clear V K0; simp only [put, app, aa, af, zE, zS, D]
   (refine ab rfl fun K0 V => ?_; simp only [zE, op1, ev, lkp, ai, ag, ev, reduceCtorEq, E, D, J, S, M, O, Try.td3, Dfa.av]; refine V _ ?_; clear V K0; simp only [put, app, aa, af, zE, zS, D])
   refine ah ?_
   refine hK8 _ ?_; clear hK8; refine ad [0, 1, 2, 3, 4, 5, 11] ?_; simp only [U, lkp, zE, reduceCtorEq, E, Y, D]
   refine aJ ?_
   refine ⟨by first | exact .inl rfl | exact .inr rfl, _, rfl, ?_⟩; simp only [fzV, fz1, fzC, List.map_cons, List.map_nil, U, lkp, zE, reduceCtorEq, E, Y, D, Dfa.av]
   refine VLE.of_eq ?_
   refine congrArg (fun n => AV.one (AC.int IntKind.i64 n)) ?_
   unfold d4
   symm
   first
   | (rw [if_neg (by assumption)]; done)
   | (rw [if_pos (by omega), if_neg (by assumption)]; done)
   | (rw [if_pos (by omega), if_pos (by omega), if_neg (by omega)]; done)
   | (rw [if_pos (by omega), if_pos (by omega), if_pos (by omega)]; done)
  ·(try simp only [zB, reduceCtorEq] at hc7)
   refine Z fun K9 hK9 => ?_
   refine ae hP hN rfl ?_
   iterate 6 (refine ab rfl fun K0 V => ?_; simp only [zE, op1, ev, lkp, ai, ag, aw, ay, Nat.mul_one, au, ax, acs, Ty.dflt, zG, ao, aC, aB, aD, ak, az, aO, reduceCtorEq, E, D, J, S, M, O, Try.st25, Try.td25, Try.td3, Try.td4, Dfa.av]; (repeat refine And.intro (by first | omega | assumption | exact rfl) ?_); refine V _ ?_; clear V K0; simp only [put, app, aa, af, zE, zS, D])
   refine ah ?_
   refine hK9 _ ?_; clear hK9; refine ad [0, 1, 2, 3, 4, 5, 11, 17] ?_; simp only [U, lkp, zE, reduceCtorEq, E, Y, D]
   refine aA (by simp only [ev, U, lkp, zE, reduceCtorEq, E, Y, D]; exact rfl) (fun hc10 => ?_) (fun hc10 => ?_)
   ·(try simp only [zB, reduceCtorEq] at hc10)
    refine Z fun K11 hK11 => ?_
    refine ae hP hN rfl ?_
    (refine ab rfl fun K0 V => ?_; simp only [zE, op1, ev, lkp, ai, ag, ev, reduceCtorEq, E, D, J, S, M, O, Try.td3, Dfa.av]; refine V _ ?_; clear V K0; simp only [put, app, aa, af, zE, zS, D])
    refine ah ?_
    refine hK11 _ ?_; clear hK11; refine ad [0, 1, 2, 3, 4, 5, 11, 17] ?_; simp only [U, lkp, zE, reduceCtorEq, E, Y, D]
    refine aJ ?_
    refine ⟨by first | exact .inl rfl | exact .inr rfl, _, rfl, ?_⟩; simp only [fzV, fz1, fzC, List.map_cons, List.map_nil, U, lkp, zE, reduceCtorEq, E, Y, D, Dfa.av]
    refine VLE.of_eq ?_
    refine congrArg (fun n => AV.one (AC.int IntKind.i64 n)) ?_
    unfold d4
    symm
    first
    | (rw [if_neg (by assumption)]; done)
    | (rw [if_pos (by omega), if_neg (by assumption)]; done)
    | (rw [if_pos (by omega), if_pos (by omega), if_neg (by omega)]; done)
    | (rw [if_pos (by omega), if_pos (by omega), if_pos (by omega)]; done)
   ·(try simp only [zB, reduceCtorEq] at hc10)
    refine aI ?_
    refine hK2 _ ?_; clear hK2; refine ad [0, 1, 2, 3, 4, 5, 11, 17] ?_; simp only [U, lkp, zE, reduceCtorEq, E, Y, D]
    refine Z fun K12 hK12 => ?_
    refine ae hP hN rfl ?_
    (refine ab rfl fun K0 V => ?_; simp only [zE, op1, ev, lkp, ai, ag, ev, reduceCtorEq, E, D, J, S, M, O, Try.td3, Dfa.av]; refine V _ ?_; clear V K0; simp only [put, app, aa, af, zE, zS, D])
    refine ah ?_
    refine hK12 _ ?_; clear hK12; refine ad [0, 1, 2, 3, 4, 5, 11, 17] ?_; simp only [U, lkp, zE, reduceCtorEq, E, Y, D]
    refine aJ ?_
    refine ⟨by first | exact .inl rfl | exact .inr rfl, _, rfl, ?_⟩; simp only [fzV, fz1, fzC, List.map_cons, List.map_nil, U, lkp, zE, reduceCtorEq, E, Y, D, Dfa.av]
    refine VLE.of_eq ?_
    refine congrArg (fun n => AV.one (AC.int IntKind.i64 n)) ?_
    unfold d4
    symm
    first
    | (rw [if_neg (by assumption)]; done)
    | (rw [if_pos (by omega), if_neg (by assumption)]; done)
    | (rw [if_pos (by omega), if_pos (by omega), if_neg (by omega)]; done)
    | (rw [if_pos (by omega), if_pos (by omega), if_pos (by omega)]; done)
end Go.Proofs.Ytdkgcbhbpdbmnaa
namespace Go.Proofs.Ytdkgcbhbpdbmnaa
open Go Go.AV
open Nat renaming reduceEqDiff → E, reduceAdd → D, reduceLeDiff → J, reduceLT → S, reduceMul → M, reduceSub → O
open List renaming set_cons_zero → ar, set_cons_succ → aq
set_option maxRecDepth 100000 in
theorem lB (l : List PP) (q : PP) (hl : l.length ≤ 100000) : bH Try.prog 60 [.one (.list (.pair (.int .i64) (.pair (.int .i64) .unit)) (List.map dV l)), .agg [.int .i64 q.1, .int .i64 q.2]] (.one (.int .i64 (pos l q : Int))) := by
 refine aR Try.func60 rfl (by kernel_rfl) (Nat.le_of_ble_eq_true rfl) rfl fun C hP hN hB => ?_
 replace hN : C.N = 21 := hN
 simp only [Y, D]
 refine Z fun K1 hK1 => ?_
 refine ae hP hN rfl ?_
 iterate 2 (refine ab rfl fun K0 V => ?_; simp only [zE, op1, ev, lkp, ai, ag, ch, am, reduceCtorEq, E, D, J, S, M, O, Try.fl93, Try.st93, Try.td3, Try.td93, List.length_map]; (repeat refine And.intro (by first | omega | assumption | exact rfl) ?_); refine V _ ?_; clear V K0; simp only [put, app, aa, af, zE, zS, D])
 refine ah ?_
 refine hK1 _ ?_; clear hK1; refine ad [0, 1, 3, 4] ?_; simp only [U, lkp, zE, reduceCtorEq, E, Y, D]
 refine Z fun K2 hK2 => ?_
 refine ae hP hN rfl ?_
 (refine ab rfl fun K0 V => ?_; simp only [zE, op1, ev, lkp, ai, ag, ev, reduceCtorEq, E, D, J, S, M, O, Try.td3, List.length_map]; refine V _ ?_; clear V K0; simp only [put, app, aa, af, zE, zS, D])
 refine ah ?_
 refine hK2 _ ?_; clear hK2; refine ad [0, 1, 3, 4, 5] ?_; simp only [U, lkp, zE, reduceCtorEq, E, Y, D]
 refine Z fun K3 hK3 => ?_
 refine aH ?_
 refine bj (fun n4 s4 => ∃ (k : Nat), (k ≤ l.length) ∧ (∀ j, j < k → l.getD j d0 ≠ q) ∧ n4 = l.length + 1 - k ∧ s4 = { env := [(0, .one (.list (.pair (.int .i64) (.pair (.int .i64) .unit)) (List.map dV l))), (3, .one (.ptr 0 0 0 0)), (4, .one (.int .i64 0)), (5, .one (.int .i64 (k : Int)))], L := [.vars 93 [.int .i64 q.1, .int .i64 q.2]] }) ?_ ?_
 ·exact ⟨_, _, aE [0, 3, 4, 5], 0, Nat.zero_le _, fun q hq => by omega, rfl, rfl⟩
 ·rintro n4 s4 ⟨k, hk, hq, rfl, rfl⟩
  refine Z fun K5 hK5 => ?_
  refine Z fun K6 hK6 => ?_
  have hgi : gt (.pair (.int .i64) (.pair (.int .i64) .unit)) (List.map dV l) (k : Int) = ((l.getD k d0).1, ((l.getD k d0).2, ())) := (r7 l k).1
  refine bY hP hN Try.mixed rfl ?_
  iterate 4 (refine ab rfl fun K0 V => ?_; simp only [zE, op1, ev, lkp, ai, ag, aK, br, bf, aY, b0, bn, Nat.div_one, aP, ba, Ty.size, aM, dite_true, aC, aB, aD, ak, az, aO, reduceCtorEq, E, D, J, S, M, O, Try.el89, Try.td3, Try.td4, Try.td89, List.length_map, hgi]; (repeat refine And.intro (by first | omega | assumption | exact rfl) ?_); (first | refine V _ ?_ | refine Or.inl (V _ ?_)); clear V K0; simp only [put, app, aa, af, zE, zS, D])
  (refine ab rfl fun K0 V => ?_; simp only [zE, op1, ev, lkp, ai, ag, ev, reduceCtorEq, E, D, J, S, M, O, Try.td4, List.length_map, hgi]; refine V _ ?_; clear V K0; simp only [put, app, aa, af, zE, zS, D])
  refine' aU (want := true) 6 rfl (m := 10) (by simp only [U, lkp, zE, reduceCtorEq, E, Y, D]; exact rfl) (by kernel_rfl) rfl rfl rfl rfl rfl (fun hg7 => ?a7) ?b7 ?c7
  case a7 =>
   have hq7 := hg7; (try simp only [zB, reduceCtorEq] at hg7); simp only [List.take_succ_cons, List.take_zero, List.cons_append, List.nil_append]
   (refine aL rfl fun K0 V => ?_; simp only [zE, op1, ev, lkp, ai, ag, ev, reduceCtorEq, E, D, J, S, M, O, Try.el89, Try.td89, List.length_map, hgi]; refine V _ ?_; clear V K0; simp only [put, app, aa, af, zE, zS, D])
   (refine aL rfl fun K0 V => ?_; simp only [zE, op1, ev, lkp, ai, ag, ev, reduceCtorEq, E, D, J, S, M, O, Try.td3, List.length_map, hgi]; refine V _ ?_; clear V K0; simp only [put, app, aa, af, zE, zS, D])
   (refine aL rfl fun K0 V => ?_; simp only [zE, op1, ev, lkp, ai, ag, aF, zG, Ty.dflt, Ty.size, Nat.mul_one, ne_eq, not_false_eq_true, Int.natCast_one, Int.mul_one, reduceCtorEq, E, D, J, S, M, O, Try.el89, Try.td89, List.length_map, hgi]; (repeat refine And.intro (by first | omega | assumption | exact rfl) ?_); refine V _ ?_; clear V K0; simp only [put, app, aa, af, zE, zS, D])
   (refine aL rfl fun K0 V => ?_; simp only [zE, op1, ev, lkp, ai, ag, ay, Nat.mul_one, au, ax, acs, Ty.dflt, zG, ao, reduceCtorEq, E, D, J, S, M, O, Try.fl93, Try.st93, Try.td93, List.length_map, hgi]; (repeat refine And.intro (by first | omega | assumption | exact rfl) ?_); refine V _ ?_; clear V K0; simp only [put, app, aa, af, zE, zS, D])
   (refine aL rfl fun K0 V => ?_; simp only [zE, op1, ev, lkp, ai, ag, ay, Nat.mul_one, au, ax, acs, Ty.dflt, zG, ao, reduceCtorEq, E, D, J, S, M, O, Try.fl93, Try.st93, Try.td93, List.length_map, hgi]; (repeat refine And.intro (by first | omega | assumption | exact rfl) ?_); refine V _ ?_; clear V K0; simp only [put, app, aa, af, zE, zS, D])
   (refine aL rfl fun K0 V => ?_; simp only [zE, op1, ev, lkp, ai, ag, aC, aB, aD, ak, az, aO, reduceCtorEq, E, D, J, S, M, O, Try.fl93, Try.st93, Try.td4, Try.td93, List.length_map, hgi]; (repeat refine And.intro (by first | omega | assumption | exact rfl) ?_); refine V _ ?_; clear V K0; simp only [put, app, aa, af, zE, zS, D])
   (refine ab rfl fun K0 V => ?_; simp only [zE, op1, ev, lkp, ai, ag, bq, reduceCtorEq, E, D, J, S, M, O, Try.td4, List.length_map, hgi]; refine V _ ?_; clear V K0; simp only [put, app, aa, af, zE, zS, D])
   refine ah ?_
   refine ⟨by simp only [U, lkp, zE, reduceCtorEq, E, Y, D]; exact rfl, rfl, ?_, rfl⟩; (repeat refine aV rfl ?_); exact bu (by exact rfl) hq7
  case b7 => exact bt (by first | rfl | (simp [c0]; done) | decide)
  simp only [bm, bb]
  refine ah ?_
  refine ⟨by kernel_rfl, ?_⟩
  refine hK6 _ ?_; clear hK6; refine ad [0, 3, 4, 5, 17] ?_; simp only [U, lkp, zE, reduceCtorEq, E, Y, D]
  refine aA (by simp only [ev, U, lkp, zE, reduceCtorEq, E, Y, D]; exact rfl) (fun hc8 => ?_) (fun hc8 => ?_)
  ·(try simp only [zB, reduceCtorEq] at hc8)
   have hne : l.getD k d0 ≠ q := fun e => by
     have e1 := congrArg Prod.fst e; have e2 := congrArg Prod.snd e; have h9 := hc8; rw [e1, e2] at h9; simp at h9; done
   refine aI ?_
   refine hK5 _ ?_; clear hK5; refine ad [0, 3, 4, 5, 17] ?_; simp only [U, lkp, zE, reduceCtorEq, E, Y, D]
   refine aH ?_
   refine ae hP hN rfl ?_
   iterate 3 (refine ab rfl fun K0 V => ?_; simp only [zE, op1, ev, lkp, ai, ag, aC, aB, aD, ak, az, aO, reduceCtorEq, E, D, J, S, M, O, Try.td3, List.length_map]; (repeat refine And.intro (by first | omega | assumption | exact rfl) ?_); refine V _ ?_; clear V K0; simp only [put, app, aa, af, zE, zS, D])
   refine ah ?_
   refine ⟨_, _, ?_, aE [0, 3, 4, 5], k + 1, by omega, fun j hj => ?_, rfl, rfl⟩
   · omega
   · by_cases e : j = k
     · rw [e]; exact hne
     · exact hq j (by omega)
  ·(try simp only [zB, reduceCtorEq] at hc8)
   obtain ⟨hpk, _, _⟩ := tT (l := l) (q := q) (k := k) hq (by omega) (fun hkl => Prod.ext (by have h9 := hc8; omega) (by have h9 := hc8; omega))
   refine bg ?_
   refine hK3 _ ?_; clear hK3; refine ad [0, 3, 4, 5, 17] ?_; simp only [U, lkp, zE, reduceCtorEq, E, Y, D]
   refine Z fun K9 hK9 => ?_
   refine ae hP hN rfl ?_
   iterate 2 (refine ab rfl fun K0 V => ?_; simp only [zE, op1, ev, lkp, ai, ag, ev, reduceCtorEq, E, D, J, S, M, O, Try.td3, List.length_map]; refine V _ ?_; clear V K0; simp only [put, app, aa, af, zE, zS, D])
   refine ah ?_
   refine hK9 _ ?_; clear hK9; refine ad [0, 3, 4, 5, 17] ?_; simp only [U, lkp, zE, reduceCtorEq, E, Y, D]
   refine aJ ?_
   refine ⟨by first | exact .inl rfl | exact .inr rfl, _, rfl, ?_⟩; simp only [fzV, fz1, fzC, List.map_cons, List.map_nil, U, lkp, zE, reduceCtorEq, E, Y, D, List.length_map]
   refine VLE.of_eq ?_
   refine congrArg (fun n => AV.one (AC.int IntKind.i64 n)) ?_
   rw [← hpk]
end Go.Proofs.Ytdkgcbhbpdbmnaa
namespace Go.Proofs.Ytdkgcbhbpdbmnaa
open Go Go.AV
open Nat renaming reduceEqDiff → E, reduceAdd → D, reduceLeDiff → J, reduceLT → S, reduceMul → M, reduceSub → O
open List renaming set_cons_zero → ar, set_cons_succ → aq
set_option maxRecDepth 100000 in
set_option maxHeartbeats 1500000 in
theorem qD (a b : Dfa) (most : Nat) (ha : DOK a) (hb : DOK b) (hi : a.inp = b.inp) : bH Try.prog 49 [a.av, b.av, .one (.int .i64 (most : Int))] (.tup [.one (.list (.pair (.int .i64) (.pair (.int .i64) .unit)) (List.map dV ((eu (bS a b) a.inp.toNat most (a.nx.length * b.nx.length + 1) 0 [((a.st, b.st), [])]).map Prod.fst))), .one (.list (.list (.int .i64)) ((eu (bS a b) a.inp.toNat most (a.nx.length * b.nx.length + 1) 0 [((a.st, b.st), [])]).map Prod.snd))]) := by
 have a1 := ha.i1; have a2 := ha.i2; have a4 := ha.n2; have b4 := hb.n2; have hm9 := eY a4 b4
 refine aR Try.func49 rfl (by kernel_rfl) (Nat.le_of_ble_eq_true rfl) rfl fun C hP hN hB => ?_
 replace hN : C.N = 87 := hN
 simp only [Y, D]
 refine Z fun K1 hK1 => ?_
 refine ae hP hN rfl ?_
 iterate 4 (refine ab rfl fun K0 V => ?_; simp only [zE, op1, ev, lkp, ai, ag, ch, am, reduceCtorEq, E, D, J, S, M, O, Try.el22, Try.el89, Try.st25, Try.td22, Try.td25, Try.td89, Dfa.av, List.length_map]; (repeat refine And.intro (by first | omega | assumption | exact rfl) ?_); refine V _ ?_; clear V K0; simp only [put, app, aa, af, zE, zS, D])
 refine ah ?_
 refine hK1 _ ?_; clear hK1; refine ad [0, 1, 2, 3, 4, 6, 7] ?_; simp only [U, lkp, zE, reduceCtorEq, E, Y, D]
 refine Z fun K2 hK2 => ?_
 refine ae hP hN rfl ?_
 iterate 5 (refine ab rfl fun K0 V => ?_; simp only [zE, op1, ev, lkp, ai, ag, aw, ay, Nat.mul_one, au, ax, acs, Ty.dflt, zG, ao, bM, aW, aN, am, reduceCtorEq, E, D, J, S, M, O, Try.fl93, Try.st25, Try.st93, Try.td1, Try.td25, Try.td3, Try.td93, Dfa.av, List.length_map]; (repeat refine And.intro (by first | omega | assumption | exact rfl) ?_); (first | refine V _ ?_ | refine Or.inl (V _ ?_)); clear V K0; simp only [put, app, aa, af, zE, zS, D])
 (refine ab rfl fun K0 V => ?_; simp only [zE, op1, ev, lkp, ai, ag, aZ, aW, bW, rep, aM, aN, am, Ty.size, reduceCtorEq, E, D, J, S, M, O, Try.el89, Try.td1, Try.td89, Dfa.av, List.length_map]; (repeat refine And.intro (by first | omega | assumption | exact rfl) ?_); refine Or.inr (Or.inl (V _ ?_)); clear V K0; simp only [put, app, aa, af, zE, zS, D])
 (refine ab rfl fun K0 V => ?_; simp only [zE, op1, ev, lkp, ai, ag, ev, reduceCtorEq, E, D, J, S, M, O, Try.el89, Try.td89, Dfa.av, List.length_map]; refine V _ ?_; clear V K0; simp only [put, app, aa, af, zE, zS, D])
 refine ah ?_
 refine hK2 _ ?_; clear hK2; refine ad [0, 1, 2, 3, 4, 6, 7, 8] ?_; simp only [U, lkp, zE, reduceCtorEq, E, Y, D]
 refine Z fun K3 hK3 => ?_
 refine ae hP hN rfl ?_
 (refine ab rfl fun K0 V => ?_; simp only [zE, op1, ev, lkp, ai, ag, aZ, aW, bW, rep, aM, aN, am, Ty.size, reduceCtorEq, E, D, J, S, M, O, Try.el22, Try.td1, Try.td22, Dfa.av, List.length_map]; (repeat refine And.intro (by first | omega | assumption | exact rfl) ?_); refine Or.inr (Or.inl (V _ ?_)); clear V K0; simp only [put, app, aa, af, zE, zS, D])
 (refine ab rfl fun K0 V => ?_; simp only [zE, op1, ev, lkp, ai, ag, ev, reduceCtorEq, E, D, J, S, M, O, Try.el22, Try.td22, Dfa.av, List.length_map]; refine V _ ?_; clear V K0; simp only [put, app, aa, af, zE, zS, D])
 refine ah ?_
 refine hK3 _ ?_; clear hK3; refine ad [0, 1, 2, 3, 4, 6, 7, 8, 9] ?_; simp only [U, lkp, zE, reduceCtorEq, E, Y, D]
 refine Z fun K4 hK4 => ?_
 refine Z fun K5 hK5 => ?_
 refine ae hP hN rfl ?_
 (refine ab rfl fun K0 V => ?_; simp only [zE, op1, ev, lkp, ai, ag, ev, reduceCtorEq, E, D, J, S, M, O, Try.td3, Dfa.av, List.length_map]; refine V _ ?_; clear V K0; simp only [put, app, aa, af, zE, zS, D])
 refine ah ?_
 refine hK5 _ ?_; clear hK5; refine ad [0, 1, 2, 3, 4, 6, 7, 8, 9, 10] ?_; simp only [U, lkp, zE, reduceCtorEq, E, Y, D]
 refine aH ?_
 refine bj (fun n6 s6 => ∃ (k : Nat) (l : List W3) (v : Nat), (DW a.nx.length b.nx.length l) ∧ (eu (bS a b) a.inp.toNat most (a.nx.length * b.nx.length + 1 - k) k l = (eu (bS a b) a.inp.toNat most (a.nx.length * b.nx.length + 1) 0 [((a.st, b.st), [])])) ∧ (k ≤ l.length) ∧ n6 = a.nx.length * b.nx.length + 1 - k ∧ s6 = { env := [(2, .one (.int .i64 (most : Int))), (3, .one (.ptr 0 0 0 0)), (4, .one (.ptr 1 0 0 0)), (6, .one .nils), (7, .one .nils), (8, .one (.row 2 v)), (9, .one (.row 3 v)), (10, .one (.int .i64 (k : Int)))], L := [.vars 25 [.int .i64 a.inp, .int .i64 a.st, .list (.list (.int .i64)) a.nx, .list .bool a.acc], .vars 25 [.int .i64 b.inp, .int .i64 b.st, .list (.list (.int .i64)) b.nx, .list .bool b.acc], .row (.pair (.int .i64) (.pair (.int .i64) .unit)) 93 v (List.map dV (l.map Prod.fst)), .row (.list (.int .i64)) 26 v (l.map Prod.snd)] }) ?_ ?_
 ·exact ⟨_, _, aE [2, 3, 4, 6, 7, 8, 9, 10], 0, [((a.st, b.st), [])], 0, gB (eH ha hb), rfl, by simp, rfl, rfl⟩
 ·rintro n6 s6 ⟨k, l, v, hdw, hrun, hk, rfl, rfl⟩
  refine Z fun K7 hK7 => ?_
  refine Z fun K8 hK8 => ?_
  refine ae hP hN rfl ?_
  iterate 4 (refine ab rfl fun K0 V => ?_; simp only [zE, op1, ev, lkp, ai, ag, aK, br, bf, aY, b0, bn, Nat.div_one, aP, ba, Ty.size, aM, dite_true, aC, aB, aD, ak, az, aO, reduceCtorEq, E, D, J, S, M, O, Try.el89, Try.td3, Try.td4, Try.td89, Dfa.av, List.length_map]; (repeat refine And.intro (by first | omega | assumption | exact rfl) ?_); (first | refine V _ ?_ | refine Or.inl (V _ ?_)); clear V K0; simp only [put, app, aa, af, zE, zS, D])
  (refine ab rfl fun K0 V => ?_; simp only [zE, op1, ev, lkp, ai, ag, ev, reduceCtorEq, E, D, J, S, M, O, Try.td4, Dfa.av, List.length_map]; refine V _ ?_; clear V K0; simp only [put, app, aa, af, zE, zS, D])
  refine' aU (want := true) 4 rfl (m := 24) (by simp only [U, lkp, zE, reduceCtorEq, E, Y, D]; exact rfl) (by kernel_rfl) rfl rfl rfl rfl rfl (fun hg9 => ?a9) ?b9 ?c9
  case a9 =>
   have hq9 := hg9; (try simp only [zB, reduceCtorEq] at hg9); simp only [List.take_succ_cons, List.take_zero, List.cons_append, List.nil_append]
   (refine aL rfl fun K0 V => ?_; simp only [zE, op1, ev, lkp, ai, ag, ev, reduceCtorEq, E, D, J, S, M, O, Try.el89, Try.td89, Dfa.av, List.length_map]; refine V _ ?_; clear V K0; simp only [put, app, aa, af, zE, zS, D])
   (refine aL rfl fun K0 V => ?_; simp only [zE, op1, ev, lkp, ai, ag, aK, br, bf, aY, b0, bn, Nat.div_one, aP, ba, Ty.size, aM, dite_true, reduceCtorEq, E, D, J, S, M, O, Try.el89, Try.td3, Try.td89, Dfa.av, List.length_map]; (repeat refine And.intro (by first | omega | assumption | exact rfl) ?_); (first | refine V _ ?_ | refine Or.inl (V _ ?_)); clear V K0; simp only [put, app, aa, af, zE, zS, D])
   (refine aL rfl fun K0 V => ?_; simp only [zE, op1, ev, lkp, ai, ag, ev, reduceCtorEq, E, D, J, S, M, O, Try.td3, Dfa.av, List.length_map]; refine V _ ?_; clear V K0; simp only [put, app, aa, af, zE, zS, D])
   (refine aL rfl fun K0 V => ?_; simp only [zE, op1, ev, lkp, ai, ag, aC, aB, aD, ak, az, aO, reduceCtorEq, E, D, J, S, M, O, Try.td3, Try.td4, Dfa.av, List.length_map]; (repeat refine And.intro (by first | omega | assumption | exact rfl) ?_); refine V _ ?_; clear V K0; simp only [put, app, aa, af, zE, zS, D])
   (refine ab rfl fun K0 V => ?_; simp only [zE, op1, ev, lkp, ai, ag, bq, reduceCtorEq, E, D, J, S, M, O, Try.td4, Dfa.av, List.length_map]; refine V _ ?_; clear V K0; simp only [put, app, aa, af, zE, zS, D])
   refine ah ?_
   refine ⟨by simp only [U, lkp, zE, reduceCtorEq, E, Y, D]; exact rfl, rfl, ?_, rfl⟩; (repeat refine aV rfl ?_); exact bu (by exact rfl) hq9
  case b9 => exact bt (by first | rfl | (simp [c0]; done) | decide)
  simp only [bm, bb]
  refine ah ?_
  refine hK8 _ ?_; clear hK8; refine ad [2, 3, 4, 6, 7, 8, 9, 10, 29] ?_; simp only [U, lkp, zE, reduceCtorEq, E, Y, D]
  refine aA (by simp only [ev, U, lkp, zE, reduceCtorEq, E, Y, D]; exact rfl) (fun hc10 => ?_) (fun hc10 => ?_)
  ·(try simp only [zB, reduceCtorEq] at hc10)
   refine aI ?_
   refine hK7 _ ?_; clear hK7; refine ad [2, 3, 4, 6, 7, 8, 9, 10, 29] ?_; simp only [U, lkp, zE, reduceCtorEq, E, Y, D]
   refine Z fun K11 hK11 => ?_
   refine aH ?_
   refine Z fun K12 hK12 => ?_
   refine ae hP hN rfl ?_
   (refine ab rfl fun K0 V => ?_; simp only [zE, op1, ev, lkp, ai, ag, ev, reduceCtorEq, E, D, J, S, M, O, Try.td3, Dfa.av, List.length_map]; refine V _ ?_; clear V K0; simp only [put, app, aa, af, zE, zS, D])
   refine ah ?_
   refine hK12 _ ?_; clear hK12; refine ad [2, 3, 4, 6, 7, 8, 9, 10, 11, 29] ?_; simp only [U, lkp, zE, reduceCtorEq, E, Y, D]
   refine aH ?_
   refine bj (fun n13 s13 => ∃ (x : Nat) (v2 : Nat), ((x : Int) ≤ a.inp) ∧ (DW a.nx.length b.nx.length (bK (bS a b) (l.getD k w30) l x)) ∧ n13 = a.inp.toNat - x ∧ s13 = { env := [(2, .one (.int .i64 (most : Int))), (3, .one (.ptr 0 0 0 0)), (4, .one (.ptr 1 0 0 0)), (6, .one .nils), (7, .one .nils), (8, .one (.row 2 v2)), (9, .one (.row 3 v2)), (10, .one (.int .i64 (k : Int))), (11, .one (.int .i64 (x : Int)))], L := [.vars 25 [.int .i64 a.inp, .int .i64 a.st, .list (.list (.int .i64)) a.nx, .list .bool a.acc], .vars 25 [.int .i64 b.inp, .int .i64 b.st, .list (.list (.int .i64)) b.nx, .list .bool b.acc], .row (.pair (.int .i64) (.pair (.int .i64) .unit)) 93 v2 (List.map dV ((bK (bS a b) (l.getD k w30) l x).map Prod.fst)), .row (.list (.int .i64)) 26 v2 ((bK (bS a b) (l.getD k w30) l x).map Prod.snd)] }) ?_ ?_
   ·exact ⟨_, _, aE [2, 3, 4, 6, 7, 8, 9, 10, 11], 0, v, by omega, hdw, rfl, rfl⟩
   ·rintro n13 s13 ⟨x, v2, hx, hdc, rfl, rfl⟩
    refine Z fun K14 hK14 => ?_
    refine Z fun K15 hK15 => ?_
    refine ae hP hN rfl ?_
    iterate 4 (refine ab rfl fun K0 V => ?_; simp only [zE, op1, ev, lkp, ai, ag, aw, ay, Nat.mul_one, au, ax, acs, Ty.dflt, zG, ao, aC, aB, aD, ak, az, aO, reduceCtorEq, E, D, J, S, M, O, Try.st25, Try.td25, Try.td3, Try.td4, Dfa.av, List.length_map]; (repeat refine And.intro (by first | omega | assumption | exact rfl) ?_); refine V _ ?_; clear V K0; simp only [put, app, aa, af, zE, zS, D])
    refine ah ?_
    refine hK15 _ ?_; clear hK15; refine ad [2, 3, 4, 6, 7, 8, 9, 10, 11, 35] ?_; simp only [U, lkp, zE, reduceCtorEq, E, Y, D]
    refine aA (by simp only [ev, U, lkp, zE, reduceCtorEq, E, Y, D]; exact rfl) (fun hc16 => ?_) (fun hc16 => ?_)
    ·(try simp only [zB, reduceCtorEq] at hc16)
     refine aI ?_
     refine hK14 _ ?_; clear hK14; refine ad [2, 3, 4, 6, 7, 8, 9, 10, 11, 35] ?_; simp only [U, lkp, zE, reduceCtorEq, E, Y, D]
     refine Z fun K17 hK17 => ?_
     refine aH ?_
     refine Z fun K18 hK18 => ?_
     refine pV ?_; simp only [List.cons_append, List.append_assoc, List.nil_append]
     have hkl : k < l.length := by omega
     have hge := gv (bS a b) (l.getD k w30) l x
     have hgi : ∀ d, (List.map dV ((bK (bS a b) (l.getD k w30) l x).map Prod.fst)).getD k d = (((l.getD k w30).1.1, ((l.getD k w30).1.2, ()))) := fun d => by rw [jf (by omega), fy _ _ x hkl]
     have hwi : ∀ z, ((bK (bS a b) (l.getD k w30) l x).map Prod.snd).getD k z = (l.getD k w30).2 := fun z => by rw [sS (by omega), fy _ _ x hkl]
     have hre := hdw.rg _ (cO hkl)
     obtain ⟨hr1, hr2⟩ := id hre
     have hra := ha.rli hr1; have hsa : ((a.nx.getD (l.getD k w30).1.1.toNat []).length : Int) = a.inp := hra; have hrb := hb.rli hr2; have hsb : ((b.nx.getD (l.getD k w30).1.2.toNat []).length : Int) = b.inp := hrb; have hcl := hdc.le; have hwl := hdw.wl _ (cO hkl); have hdl := hdw.le
     refine bY hP hN Try.mixed rfl ?_
     iterate 25 (refine ab rfl fun K0 V => ?_; simp only [zE, op1, ev, lkp, ai, ag, aw, ay, Nat.mul_one, au, ax, acs, Ty.dflt, zG, ao, aF, Ty.size, ne_eq, not_false_eq_true, Int.natCast_one, Int.mul_one, bM, aW, aN, am, reduceCtorEq, E, D, J, S, M, O, Try.el22, Try.el26, Try.el89, Try.fl93, Try.st25, Try.st93, Try.td1, Try.td2, Try.td22, Try.td25, Try.td26, Try.td3, Try.td89, Try.td93, Dfa.av, List.length_map, hgi]; (repeat refine And.intro (by first | omega | assumption | exact rfl) ?_); (first | refine V _ ?_ | refine Or.inl (V _ ?_)); clear V K0; simp only [put, app, aa, af, zE, zS, D])
     (refine ab rfl fun K0 V => ?_; simp only [zE, op1, ev, lkp, ai, ag, bI, reduceCtorEq, E, D, J, S, M, O, Try.fl93, Try.st93, Try.td93, Dfa.av, List.length_map, hgi]; refine Or.inr (Or.inl ⟨4, ?_, (.pair (.int .i64) (.pair (.int .i64) .unit)), (0, (0, ())), ?_⟩); (exact rfl); (repeat refine And.intro (by first | rfl | decide) ?_); refine V _ ?_; clear V K0; simp only [put, app, aa, af, zE, zS, D])
     (refine ab rfl fun K0 V => ?_; simp only [zE, op1, ev, lkp, ai, ag, aX, Nat.mul_one, am, aN, aM, acs, Ty.size, Ty.dflt, zG, reduceCtorEq, E, D, J, S, M, O, Try.fl93, Try.st93, Try.td93, Dfa.av, List.length_map, hgi]; (repeat refine And.intro (by first | omega | assumption | exact rfl) ?_); refine V _ ?_; clear V K0; simp only [put, app, aa, af, zE, zS, D])
     refine ah ?_
     refine ⟨by kernel_rfl, ?_⟩
     refine hK18 _ ?_; clear hK18; refine ad [2, 3, 4, 6, 7, 8, 9, 10, 11, 12, 35] ?_; simp only [U, lkp, zE, reduceCtorEq, E, Y, D]
     refine Z fun K19 hK19 => ?_
     refine ae hP hN rfl ?_
     iterate 2 (refine ab rfl fun K0 V => ?_; simp only [zE, op1, ev, lkp, ai, ag, ay, Nat.mul_one, au, ax, acs, Ty.dflt, zG, ao, reduceCtorEq, E, D, J, S, M, O, Try.el89, Try.fl93, Try.st93, Try.td89, Try.td93, Dfa.av, List.length_map]; (repeat refine And.intro (by first | omega | assumption | exact rfl) ?_); refine V _ ?_; clear V K0; simp only [put, app, aa, af, zE, zS, D])
     refine ab rfl fun K0 V => ?_
     refine aS (h := jv (args := [.one (.row 2 v2), .agg [.int .i64 (bS a b (l.getD k w30).1 x).1, .int .i64 (bS a b (l.getD k w30).1 x).2]]) (by simp [fzV, fz1, fzC]) rfl (lB ((bK (bS a b) (l.getD k w30) l x).map Prod.fst) (bS a b (l.getD k w30).1 x) (by rw [List.length_map]; omega)) rfl) rfl rfl (by first | exact rfl | (simp only [ev, U, lkp, zE, reduceCtorEq, E, Y, D]; exact rfl)) (by simp only [zE, zG, op1, ev, lkp, ai, ag, am, acs, be, mv1, mvC, Ty.dflt, reduceCtorEq, E, D, J, S, M, O, Dfa.av, List.length_map, List.getD_cons_zero, bS, Dfa.dl, Dfa.row, Int.toNat_natCast]) ?_
     refine V _ ?_; clear V K0; simp only [put, app, aa, af, zE, zS, D]
     iterate 3 (refine ab rfl fun K0 V => ?_; simp only [zE, op1, ev, lkp, ai, ag, aK, br, bf, aY, b0, bn, Nat.div_one, aP, ba, Ty.size, aM, dite_true, aC, aB, aD, ak, az, aO, reduceCtorEq, E, D, J, S, M, O, Try.el89, Try.td3, Try.td4, Try.td89, Dfa.av, List.length_map]; (repeat refine And.intro (by first | omega | assumption | exact rfl) ?_); (first | refine V _ ?_ | refine Or.inl (V _ ?_)); clear V K0; simp only [put, app, aa, af, zE, zS, D])
     refine ah ?_
     refine hK19 _ ?_; clear hK19; refine ad [2, 3, 4, 6, 7, 8, 9, 10, 11, 12, 35, 68] ?_; simp only [U, lkp, zE, reduceCtorEq, E, Y, D]
     refine aA (by simp only [ev, U, lkp, zE, reduceCtorEq, E, Y, D]; exact rfl) (fun hc20 => ?_) (fun hc20 => ?_)
     ·(try simp only [zB, reduceCtorEq] at hc20)
      have hnin : (bS a b (l.getD k w30).1 x) ∉ (bK (bS a b) (l.getD k w30) l x).map Prod.fst := fun hin => by have h8 := fc hin; rw [List.length_map] at h8; have h9 := hc20; omega
      refine Z fun K21 hK21 => ?_
      refine ae hP hN rfl ?_
      iterate 5 (refine ab rfl fun K0 V => ?_; simp only [zE, op1, ev, lkp, ai, ag, ay, Nat.mul_one, au, ax, acs, Ty.dflt, zG, ao, aZ, aW, bW, rep, aM, aN, am, Ty.size, aK, br, bf, aY, b0, bn, Nat.div_one, aP, ba, dite_true, reduceCtorEq, E, D, J, S, M, O, Try.el89, Try.fl93, Try.st93, Try.td1, Try.td89, Try.td93, Dfa.av, List.length_map]; (repeat refine And.intro (by first | omega | assumption | exact rfl) ?_); (first | refine V _ ?_ | refine Or.inl (V _ ?_)); clear V K0; simp only [put, app, aa, af, zE, zS, D])
      refine ah ?_
      refine hK21 _ ?_; clear hK21; refine ad [2, 3, 4, 6, 7, 8, 9, 10, 11, 12, 35, 68] ?_; simp only [U, lkp, zE, reduceCtorEq, E, Y, D]
      refine ae hP hN rfl ?_
      (refine ab rfl fun K0 V => ?_; simp only [zE, op1, ev, lkp, ai, ag, ev, reduceCtorEq, E, D, J, S, M, O, Try.el22, Try.td22, Dfa.av, List.length_map, hwi]; refine V _ ?_; clear V K0; simp only [put, app, aa, af, zE, zS, D])
      (refine ab rfl fun K0 V => ?_; simp only [zE, op1, ev, lkp, ai, ag, aZ, aW, bW, rep, aM, aN, am, Ty.size, reduceCtorEq, E, D, J, S, M, O, Try.el26, Try.td26, Dfa.av, List.length_map, hwi]; (repeat refine And.intro (by first | omega | assumption | exact rfl) ?_); refine Or.inr (Or.inl (V _ ?_)); clear V K0; simp only [put, app, aa, af, zE, zS, D])
      iterate 7 (refine ab rfl fun K0 V => ?_; simp only [zE, op1, ev, lkp, ai, ag, aF, zG, Ty.dflt, Ty.size, Nat.mul_one, ne_eq, not_false_eq_true, Int.natCast_one, Int.mul_one, ay, au, ax, acs, ao, aK, br, bf, aY, b0, bn, Nat.div_one, aP, ba, aM, dite_true, aZ, aW, bW, rep, aN, am, reduceCtorEq, E, D, J, S, M, O, Try.el22, Try.el26, Try.td1, Try.td22, Try.td26, Try.td3, Dfa.av, List.length_map, hwi]; (repeat refine And.intro (by first | omega | assumption | exact rfl) ?_); (first | refine V _ ?_ | refine Or.inl (V _ ?_)); clear V K0; simp only [put, app, aa, af, zE, zS, D])
      (refine ab rfl fun K0 V => ?_; simp only [zE, op1, ev, lkp, ai, ag, aK, br, bf, aY, b0, bn, Nat.div_one, aP, ba, Ty.size, aM, dite_true, reduceCtorEq, E, D, J, S, M, O, Try.el26, Try.td26, Dfa.av, List.length_map, hwi]; (repeat refine And.intro (by first | omega | assumption | exact rfl) ?_); refine Or.inr (V _ ?_); clear V K0; simp only [put, app, aa, af, zE, zS, D])
      iterate 3 (refine ab rfl fun K0 V => ?_; simp only [zE, op1, ev, lkp, ai, ag, aZ, aW, bW, rep, aM, aN, am, Ty.size, aK, br, bf, aY, b0, bn, Nat.div_one, aP, ba, dite_true, reduceCtorEq, E, D, J, S, M, O, Try.el22, Try.td1, Try.td22, Dfa.av, List.length_map, hwi]; (repeat refine And.intro (by first | omega | assumption | exact rfl) ?_); (first | refine V _ ?_ | refine Or.inl (V _ ?_)); clear V K0; simp only [put, app, aa, af, zE, zS, D])
      refine ah ?_
      refine hK17 _ ?_; clear hK17; refine ad [2, 3, 4, 6, 7, 8, 9, 10, 11, 12, 35, 68] ?_; simp only [U, lkp, zE, reduceCtorEq, E, Y, D]
      refine ad [2, 3, 4, 6, 7, 8, 9, 10, 11] ?_; simp only [U, lkp, zE, reduceCtorEq, E]
      first | (refine dm (L1 := [_, _, _, _, _]) rfl hB rfl rfl ?_; refine dm (L1 := [_, _, _, _]) rfl hB rfl rfl ?_) | refine dm (L1 := [_, _, _, _]) rfl hB rfl rfl ?_
      refine ae hP hN rfl ?_
      iterate 3 (refine ab rfl fun K0 V => ?_; simp only [zE, op1, ev, lkp, ai, ag, aC, aB, aD, ak, az, aO, reduceCtorEq, E, D, J, S, M, O, Try.td3, Dfa.av, List.length_map]; (repeat refine And.intro (by first | omega | assumption | exact rfl) ?_); refine V _ ?_; clear V K0; simp only [put, app, aa, af, zE, zS, D])
      refine ah ?_
      first
      | (have hs9 : bK (bS a b) (l.getD k w30) l (x + 1) = (bK (bS a b) (l.getD k w30) l x) := by rw [ca, dH hin]
         refine ⟨_, _, ?_, aE [2, 3, 4, 6, 7, 8, 9, 10, 11], x + 1, v2, by omega, by rw [hs9]; exact hdc, rfl, ?_⟩
         · omega
         · rw [hs9]; rfl)
      | (have hs9 : bK (bS a b) (l.getD k w30) l (x + 1) = (bK (bS a b) (l.getD k w30) l x) ++ [((bS a b (l.getD k w30).1 x), (l.getD k w30).2 ++ [(x : Int)])] := by rw [ca, di hnin]
         have hm8 : (l.getD k w30) ∈ (bK (bS a b) (l.getD k w30) l x) := by obtain ⟨k8, h8⟩ := dc (bS a b) (l.getD k w30) l x; rw [h8]; exact List.mem_append.2 (.inl (cO hkl))
         refine ⟨_, _, ?_, aE [2, 3, 4, 6, 7, 8, 9, 10, 11], x + 1, v2 + 1, by omega, by rw [ca]; exact hdc.step (dE ha hb hi (n := a.inp.toNat) (by omega)) hm8 (by omega), rfl, ?_⟩
         · omega
         · rw [hs9, List.map_append, List.map_append, List.map_append]; rfl)
     ·(try simp only [zB, reduceCtorEq] at hc20)
      have hin : (bS a b (l.getD k w30).1 x) ∈ (bK (bS a b) (l.getD k w30) l x).map Prod.fst := by
        by_cases hin : (bS a b (l.getD k w30).1 x) ∈ (bK (bS a b) (l.getD k w30) l x).map Prod.fst
        · exact hin
        · exfalso; have h8 := ii hin; rw [List.length_map] at h8; have h9 := hc20; omega
      refine aI ?_
      refine hK17 _ ?_; clear hK17; refine ad [2, 3, 4, 6, 7, 8, 9, 10, 11, 12, 35, 68] ?_; simp only [U, lkp, zE, reduceCtorEq, E, Y, D]
      refine ad [2, 3, 4, 6, 7, 8, 9, 10, 11] ?_; simp only [U, lkp, zE, reduceCtorEq, E]
      first | (refine dm (L1 := [_, _, _, _, _]) rfl hB rfl rfl ?_; refine dm (L1 := [_, _, _, _]) rfl hB rfl rfl ?_) | refine dm (L1 := [_, _, _, _]) rfl hB rfl rfl ?_
      refine ae hP hN rfl ?_
      iterate 3 (refine ab rfl fun K0 V => ?_; simp only [zE, op1, ev, lkp, ai, ag, aC, aB, aD, ak, az, aO, reduceCtorEq, E, D, J, S, M, O, Try.td3, Dfa.av, List.length_map]; (repeat refine And.intro (by first | omega | assumption | exact rfl) ?_); refine V _ ?_; clear V K0; simp only [put, app, aa, af, zE, zS, D])
      refine ah ?_
      first
      | (have hs9 : bK (bS a b) (l.getD k w30) l (x + 1) = (bK (bS a b) (l.getD k w30) l x) := by rw [ca, dH hin]
         refine ⟨_, _, ?_, aE [2, 3, 4, 6, 7, 8, 9, 10, 11], x + 1, v2, by omega, by rw [hs9]; exact hdc, rfl, ?_⟩
         · omega
         · rw [hs9]; rfl)
      | (have hs9 : bK (bS a b) (l.getD k w30) l (x + 1) = (bK (bS a b) (l.getD k w30) l x) ++ [((bS a b (l.getD k w30).1 x), (l.getD k w30).2 ++ [(x : Int)])] := by rw [ca, di hnin]
         have hm8 : (l.getD k w30) ∈ (bK (bS a b) (l.getD k w30) l x) := by obtain ⟨k8, h8⟩ := dc (bS a b) (l.getD k w30) l x; rw [h8]; exact List.mem_append.2 (.inl (cO hkl))
         refine ⟨_, _, ?_, aE [2, 3, 4, 6, 7, 8, 9, 10, 11], x + 1, v2 + 1, by omega, by rw [ca]; exact hdc.step (dE ha hb hi (n := a.inp.toNat) (by omega)) hm8 (by omega), rfl, ?_⟩
         · omega
         · rw [hs9, List.map_append, List.map_append, List.map_append]; rfl)
    ·(try simp only [zB, reduceCtorEq] at hc16)
     refine bg ?_
     refine hK11 _ ?_; clear hK11; refine ad [2, 3, 4, 6, 7, 8, 9, 10, 11, 35] ?_; simp only [U, lkp, zE, reduceCtorEq, E, Y, D]
     have hdl := hdw.le
     refine ae hP hN rfl ?_
     iterate 3 (refine ab rfl fun K0 V => ?_; simp only [zE, op1, ev, lkp, ai, ag, aC, aB, aD, ak, az, aO, reduceCtorEq, E, D, J, S, M, O, Try.td3, Dfa.av, List.length_map]; (repeat refine And.intro (by first | omega | assumption | exact rfl) ?_); refine V _ ?_; clear V K0; simp only [put, app, aa, af, zE, zS, D])
     refine ah ?_
     have hxn : x = a.inp.toNat := by omega
     have hkl : k < l.length := by omega
     have hge9 := gv (bS a b) (l.getD k w30) l x
     have hdl := hdw.le
     refine ⟨_, _, ?_, aE [2, 3, 4, 6, 7, 8, 9, 10], k + 1, (bK (bS a b) (l.getD k w30) l x), v2, hdc, ?_, by omega, rfl, rfl⟩
     · omega
     · rw [← hrun, show a.nx.length * b.nx.length + 1 - k = a.nx.length * b.nx.length + 1 - (k + 1) + 1 by omega, ef hkl (by omega), ← hxn]
  ·(try simp only [zB, reduceCtorEq] at hc10)
   refine bg ?_
   refine hK4 _ ?_; clear hK4; refine ad [2, 3, 4, 6, 7, 8, 9, 10, 29] ?_; simp only [U, lkp, zE, reduceCtorEq, E, Y, D]
   refine Z fun K22 hK22 => ?_
   refine ae hP hN rfl ?_
   iterate 4 (refine ab rfl fun K0 V => ?_; simp only [zE, op1, ev, lkp, ai, ag, ev, reduceCtorEq, E, D, J, S, M, O, Try.el22, Try.el89, Try.td22, Try.td89, Dfa.av, List.length_map]; refine V _ ?_; clear V K0; simp only [put, app, aa, af, zE, zS, D])
   refine ah ?_
   refine hK22 _ ?_; clear hK22; refine ad [2, 3, 4, 6, 7, 8, 9, 10, 29] ?_; simp only [U, lkp, zE, reduceCtorEq, E, Y, D]
   refine aJ ?_
   refine ⟨by first | exact .inl rfl | exact .inr rfl, _, rfl, ?_⟩; simp only [fzV, fz1, fzC, List.map_cons, List.map_nil, U, lkp, zE, reduceCtorEq, E, Y, D, Dfa.av, List.length_map]
   refine VLE.of_eq ?_
   rw [← hrun, dW (by omega)]
end Go.Proofs.Ytdkgcbhbpdbmnaa
namespace Go.Proofs.Ytdkgcbhbpdbmnaa
open Go Go.AV
open Nat renaming reduceEqDiff → E, reduceAdd → D, reduceLeDiff → J, reduceLT → S, reduceMul → M, reduceSub → O
open List renaming set_cons_zero → ar, set_cons_succ → aq
set_option maxRecDepth 100000 in
set_option maxHeartbeats 1500000 in
theorem nA (op : Int) (a b : Dfa) : bH Try.prog 23 [.one (.int .i64 op), a.av, b.av] (.tup [(cr op a b).av, .one (.int .i64 (cp op a b))]) := by
 refine aR Try.func23 rfl (by kernel_rfl) (Nat.le_of_ble_eq_true rfl) rfl fun C hP hN hB => ?_
 replace hN : C.N = 116 := hN
 simp only [Y, D]
 refine Z fun K1 hK1 => ?_
 refine ae hP hN rfl ?_
 iterate 4 (refine ab rfl fun K0 V => ?_; simp only [zE, op1, ev, lkp, ai, ag, ch, am, bI, reduceCtorEq, E, D, J, S, M, O, Try.st25, Try.td25, Try.td3, Dfa.av, List.length_map]; (repeat refine And.intro (by first | omega | assumption | exact rfl) ?_); (first | refine V _ ?_ | refine Or.inl (V _ ?_)); clear V K0; simp only [put, app, aa, af, zE, zS, D])
 refine ah ?_
 refine hK1 _ ?_; clear hK1; refine ad [0, 1, 2, 4, 5, 6, 7] ?_; simp only [U, lkp, zE, reduceCtorEq, E, Y, D]
 refine Z fun K2 hK2 => ?_
 refine Z fun K3 hK3 => ?_
 refine ae hP hN rfl ?_
 iterate 2 (refine ab rfl fun K0 V => ?_; simp only [zE, op1, ev, lkp, ai, ag, aC, aB, aD, ak, az, aO, reduceCtorEq, E, D, J, S, M, O, Try.td3, Try.td4, Dfa.av, List.length_map]; (repeat refine And.intro (by first | omega | assumption | exact rfl) ?_); refine V _ ?_; clear V K0; simp only [put, app, aa, af, zE, zS, D])
 (refine ab rfl fun K0 V => ?_; simp only [zE, op1, ev, lkp, ai, ag, ev, reduceCtorEq, E, D, J, S, M, O, Try.td4, Dfa.av, List.length_map]; refine V _ ?_; clear V K0; simp only [put, app, aa, af, zE, zS, D])
 refine' aU (want := false) 2 rfl (m := 16) (by simp only [U, lkp, zE, reduceCtorEq, E, Y, D]; exact rfl) (by kernel_rfl) rfl rfl rfl rfl rfl (fun hg4 => ?a4) ?b4 ?c4
 case a4 =>
  have hq4 := hg4; (try simp only [zB, reduceCtorEq] at hg4); simp only [List.take_succ_cons, List.take_zero, List.cons_append, List.nil_append]
  (refine aL rfl fun K0 V => ?_; simp only [zE, op1, ev, lkp, ai, ag, ev, reduceCtorEq, E, D, J, S, M, O, Try.td3, Dfa.av, List.length_map]; refine V _ ?_; clear V K0; simp only [put, app, aa, af, zE, zS, D])
  (refine aL rfl fun K0 V => ?_; simp only [zE, op1, ev, lkp, ai, ag, aC, aB, aD, ak, az, aO, reduceCtorEq, E, D, J, S, M, O, Try.td3, Try.td4, Dfa.av, List.length_map]; (repeat refine And.intro (by first | omega | assumption | exact rfl) ?_); refine V _ ?_; clear V K0; simp only [put, app, aa, af, zE, zS, D])
  (refine ab rfl fun K0 V => ?_; simp only [zE, op1, ev, lkp, ai, ag, bq, reduceCtorEq, E, D, J, S, M, O, Try.td4, Dfa.av, List.length_map]; refine V _ ?_; clear V K0; simp only [put, app, aa, af, zE, zS, D])
  refine ah ?_
  refine ⟨by simp only [U, lkp, zE, reduceCtorEq, E, Y, D]; exact rfl, rfl, ?_, rfl⟩; (repeat refine aV rfl ?_); exact bu (by exact rfl) hq4
 case b4 => exact bt (by first | rfl | (simp [c0]; done) | decide)
 simp only [bm, bb]
 refine ah ?_
 refine hK3 _ ?_; clear hK3; refine ad [0, 1, 2, 4, 5, 6, 7, 19] ?_; simp only [U, lkp, zE, reduceCtorEq, E, Y, D]
 refine aA (by simp only [ev, U, lkp, zE, reduceCtorEq, E, Y, D]; exact rfl) (fun hc5 => ?_) (fun hc5 => ?_)
 ·(try simp only [zB, reduceCtorEq] at hc5)
  have hop : op < 0 ∨ 3 < op := by omega
  refine Z fun K6 hK6 => ?_
  refine ae hP hN rfl ?_
  iterate 3 (refine ab rfl fun K0 V => ?_; simp only [zE, op1, ev, lkp, ai, ag, bM, aW, aN, am, aX, Nat.mul_one, aM, acs, Ty.size, Ty.dflt, zG, reduceCtorEq, E, D, J, S, M, O, Try.st25, Try.td25, Try.td3, Dfa.av, List.length_map]; (repeat refine And.intro (by first | omega | assumption | exact rfl) ?_); (first | refine V _ ?_ | refine Or.inl (V _ ?_)); clear V K0; simp only [put, app, aa, af, zE, zS, D])
  refine ah ?_
  refine hK6 _ ?_; clear hK6; refine ad [0, 1, 2, 4, 5, 6, 7, 19] ?_; simp only [U, lkp, zE, reduceCtorEq, E, Y, D]
  refine aJ ?_
  refine ⟨by first | exact .inl rfl | exact .inr rfl, _, rfl, ?_⟩; simp only [fzV, fz1, fzC, List.map_cons, List.map_nil, U, lkp, zE, reduceCtorEq, E, Y, D, Dfa.av, List.length_map]
  first
  | (have e1 : cr op a b = cJ := if_pos hop
     have e2 : cp op a b = 2 := if_pos hop
     rw [e1, e2]; exact bC ⟨bB ⟨.refl _, .refl _, aQ rfl, aQ rfl, trivial⟩, bp (.refl _), trivial⟩)
  | (have e1 : cr op a b = cJ := by unfold cr; rw [if_neg hop, if_neg (by assumption)]
     have e2 : cp op a b = d4 a b := by unfold cp; rw [if_neg hop, if_neg (by assumption)]
     rw [e1, e2]; exact bC ⟨bB ⟨.refl _, .refl _, aQ rfl, aQ rfl, trivial⟩, bp (.refl _), trivial⟩)
  | (have e1 : cr op a b = cJ := by unfold cr; rw [if_neg hop, if_pos ht]; exact if_pos hbig
     have e2 : cp op a b = 11 := by unfold cp; rw [if_neg hop, if_pos ht]; exact if_pos hbig
     rw [e1, e2]; exact bC ⟨bB ⟨.refl _, .refl _, aQ rfl, aQ rfl, trivial⟩, bp (.refl _), trivial⟩)
  | (have e1 : cr op a b = dBn (bS a b) (ez op a b) a.inp.toNat (bv a b) := by unfold cr; rw [if_neg hop, if_pos ht]; exact if_neg (by omega)
     have e2 : cp op a b = 0 := by unfold cp; rw [if_neg hop, if_pos ht]; exact if_neg (by omega)
     rw [e1, e2, jO (by omega)]; exact VLE.of_eq rfl)
 ·(try simp only [zB, reduceCtorEq] at hc5)
  have hop : ¬ (op < 0 ∨ 3 < op) := by omega
  refine aI ?_
  refine hK2 _ ?_; clear hK2; refine ad [0, 1, 2, 4, 5, 6, 7, 19] ?_; simp only [U, lkp, zE, reduceCtorEq, E, Y, D]
  refine Z fun K7 hK7 => ?_
  refine Z fun K8 hK8 => ?_
  refine ae hP hN rfl ?_
  iterate 2 (refine ab rfl fun K0 V => ?_; simp only [zE, op1, ev, lkp, ai, ag, ay, Nat.mul_one, au, ax, acs, Ty.dflt, zG, ao, reduceCtorEq, E, D, J, S, M, O, Try.st25, Try.td25, Dfa.av, List.length_map]; (repeat refine And.intro (by first | omega | assumption | exact rfl) ?_); refine V _ ?_; clear V K0; simp only [put, app, aa, af, zE, zS, D])
  refine ab rfl fun K0 V => ?_
  refine aS (h := aG (pK a b)) rfl rfl (by first | exact rfl | (simp only [ev, U, lkp, zE, reduceCtorEq, E, Y, D]; exact rfl)) (by simp only [zE, zG, op1, ev, lkp, ai, ag, am, acs, be, mv1, mvC, Ty.dflt, reduceCtorEq, E, D, J, S, M, O, Dfa.av, List.length_map]) ?_
  refine V _ ?_; clear V K0; simp only [put, app, aa, af, zE, zS, D]
  (refine ab rfl fun K0 V => ?_; simp only [zE, op1, ev, lkp, ai, ag, aC, aB, aD, ak, az, aO, reduceCtorEq, E, D, J, S, M, O, Try.td3, Try.td4, Dfa.av, List.length_map]; (repeat refine And.intro (by first | omega | assumption | exact rfl) ?_); refine V _ ?_; clear V K0; simp only [put, app, aa, af, zE, zS, D])
  refine ah ?_
  refine hK8 _ ?_; clear hK8; refine ad [0, 1, 2, 4, 5, 6, 7, 19, 24] ?_; simp only [U, lkp, zE, reduceCtorEq, E, Y, D]
  refine aA (by simp only [ev, U, lkp, zE, reduceCtorEq, E, Y, D]; exact rfl) (fun hc9 => ?_) (fun hc9 => ?_)
  ·(try simp only [zB, reduceCtorEq] at hc9)
   refine Z fun K10 hK10 => ?_
   refine ae hP hN rfl ?_
   iterate 3 (refine ab rfl fun K0 V => ?_; simp only [zE, op1, ev, lkp, ai, ag, bM, aW, aN, am, ay, Nat.mul_one, au, ax, acs, Ty.dflt, zG, ao, reduceCtorEq, E, D, J, S, M, O, Try.st25, Try.td25, Dfa.av, List.length_map]; (repeat refine And.intro (by first | omega | assumption | exact rfl) ?_); (first | refine V _ ?_ | refine Or.inl (V _ ?_)); clear V K0; simp only [put, app, aa, af, zE, zS, D])
   refine ab rfl fun K0 V => ?_
   refine aS (h := aG (pK a b)) rfl rfl (by first | exact rfl | (simp only [ev, U, lkp, zE, reduceCtorEq, E, Y, D]; exact rfl)) (by simp only [zE, zG, op1, ev, lkp, ai, ag, am, acs, be, mv1, mvC, Ty.dflt, reduceCtorEq, E, D, J, S, M, O, Dfa.av, List.length_map]) ?_
   refine V _ ?_; clear V K0; simp only [put, app, aa, af, zE, zS, D]
   iterate 2 (refine ab rfl fun K0 V => ?_; simp only [zE, op1, ev, lkp, ai, ag, aX, Nat.mul_one, am, aN, aM, acs, Ty.size, Ty.dflt, zG, reduceCtorEq, E, D, J, S, M, O, Try.st25, Try.td25, Try.td3, Dfa.av, List.length_map]; (repeat refine And.intro (by first | omega | assumption | exact rfl) ?_); refine V _ ?_; clear V K0; simp only [put, app, aa, af, zE, zS, D])
   refine ah ?_
   refine hK10 _ ?_; clear hK10; refine ad [0, 1, 2, 4, 5, 6, 7, 19, 24] ?_; simp only [U, lkp, zE, reduceCtorEq, E, Y, D]
   refine aJ ?_
   refine ⟨by first | exact .inl rfl | exact .inr rfl, _, rfl, ?_⟩; simp only [fzV, fz1, fzC, List.map_cons, List.map_nil, U, lkp, zE, reduceCtorEq, E, Y, D, Dfa.av, List.length_map]
   first
   | (have e1 : cr op a b = cJ := if_pos hop
      have e2 : cp op a b = 2 := if_pos hop
      rw [e1, e2]; exact bC ⟨bB ⟨.refl _, .refl _, aQ rfl, aQ rfl, trivial⟩, bp (.refl _), trivial⟩)
   | (have e1 : cr op a b = cJ := by unfold cr; rw [if_neg hop, if_neg (by assumption)]
      have e2 : cp op a b = d4 a b := by unfold cp; rw [if_neg hop, if_neg (by assumption)]
      rw [e1, e2]; exact bC ⟨bB ⟨.refl _, .refl _, aQ rfl, aQ rfl, trivial⟩, bp (.refl _), trivial⟩)
   | (have e1 : cr op a b = cJ := by unfold cr; rw [if_neg hop, if_pos ht]; exact if_pos hbig
      have e2 : cp op a b = 11 := by unfold cp; rw [if_neg hop, if_pos ht]; exact if_pos hbig
      rw [e1, e2]; exact bC ⟨bB ⟨.refl _, .refl _, aQ rfl, aQ rfl, trivial⟩, bp (.refl _), trivial⟩)
   | (have e1 : cr op a b = dBn (bS a b) (ez op a b) a.inp.toNat (bv a b) := by unfold cr; rw [if_neg hop, if_pos ht]; exact if_neg (by omega)
      have e2 : cp op a b = 0 := by unfold cp; rw [if_neg hop, if_pos ht]; exact if_neg (by omega)
      rw [e1, e2, jO (by omega)]; exact VLE.of_eq rfl)
  ·(try simp only [zB, reduceCtorEq] at hc9)
   have ht : d4 a b = 0 := by omega
   obtain ⟨ha, hb, hi⟩ := kj ht
   have a1 := ha.i1; have a2 := ha.i2; have a4 := ha.n2; have b4 := hb.n2; have hm9 := eY a4 b4
   have hdw : DW a.nx.length b.nx.length (bv a b) := (cQ (dE ha hb hi (n := a.inp.toNat) (by omega)) (eH ha hb)).1
   have hal := kJ ha hb hi
   refine aI ?_
   refine hK7 _ ?_; clear hK7; refine ad [0, 1, 2, 4, 5, 6, 7, 19, 24] ?_; simp only [U, lkp, zE, reduceCtorEq, E, Y, D]
   refine Z fun K11 hK11 => ?_
   refine ae hP hN rfl ?_
   iterate 2 (refine ab rfl fun K0 V => ?_; simp only [zE, op1, ev, lkp, ai, ag, ay, Nat.mul_one, au, ax, acs, Ty.dflt, zG, ao, reduceCtorEq, E, D, J, S, M, O, Try.st25, Try.td25, Dfa.av, List.length_map]; (repeat refine And.intro (by first | omega | assumption | exact rfl) ?_); refine V _ ?_; clear V K0; simp only [put, app, aa, af, zE, zS, D])
   refine ab rfl fun K0 V => ?_
   refine aS (h := aG (show bH Try.prog 49 [_, _, .one (.int .i64 128)] _ from qD a b 128 ha hb hi)) rfl rfl (by first | exact rfl | (simp only [ev, U, lkp, zE, reduceCtorEq, E, Y, D]; exact rfl)) (by simp only [zE, zG, op1, ev, lkp, ai, ag, am, acs, be, mv1, mvC, Ty.dflt, reduceCtorEq, E, D, J, S, M, O, Dfa.av, List.length_map]) ?_
   refine V _ ?_; clear V K0; simp only [put, app, aa, af, zE, zS, D]
   iterate 5 (refine ab rfl fun K0 V => ?_; simp only [zE, op1, ev, lkp, ai, ag, bJ, reduceCtorEq, E, D, J, S, M, O, Try.el22, Try.el89, Try.td1, Try.td22, Try.td89, Dfa.av, List.length_map]; refine V _ ?_; clear V K0; simp only [put, app, aa, af, zE, zS, D])
   refine ah ?_
   refine hK11 _ ?_; clear hK11; refine ad [0, 1, 2, 4, 5, 6, 7, 8, 19, 24] ?_; simp only [U, lkp, zE, reduceCtorEq, E, Y, D]
   refine Z fun K12 hK12 => ?_
   refine Z fun K13 hK13 => ?_
   rw [show (eu (bS a b) a.inp.toNat 128 (a.nx.length * b.nx.length + 1) 0 [((a.st, b.st), [])]) = (fq a b 128) from rfl]
   refine ae hP hN rfl ?_
   iterate 3 (refine ab rfl fun K0 V => ?_; simp only [zE, op1, ev, lkp, ai, ag, aK, br, bf, aY, b0, bn, Nat.div_one, aP, ba, Ty.size, aM, dite_true, aC, aB, aD, ak, az, aO, reduceCtorEq, E, D, J, S, M, O, Try.el89, Try.td3, Try.td4, Try.td89, Dfa.av, List.length_map]; (repeat refine And.intro (by first | omega | assumption | exact rfl) ?_); (first | refine V _ ?_ | refine Or.inl (V _ ?_)); clear V K0; simp only [put, app, aa, af, zE, zS, D])
   refine ah ?_
   refine hK13 _ ?_; clear hK13; refine ad [0, 1, 2, 4, 5, 6, 7, 8, 19, 24, 37] ?_; simp only [U, lkp, zE, reduceCtorEq, E, Y, D]
   refine aA (by simp only [ev, U, lkp, zE, reduceCtorEq, E, Y, D]; exact rfl) (fun hc14 => ?_) (fun hc14 => ?_)
   ·(try simp only [zB, reduceCtorEq] at hc14)
    have hbig : 128 < (bv a b).length := sY (show 128 < (fq a b 128).length by omega)
    refine Z fun K15 hK15 => ?_
    refine ae hP hN rfl ?_
    iterate 3 (refine ab rfl fun K0 V => ?_; simp only [zE, op1, ev, lkp, ai, ag, bM, aW, aN, am, aX, Nat.mul_one, aM, acs, Ty.size, Ty.dflt, zG, reduceCtorEq, E, D, J, S, M, O, Try.st25, Try.td25, Try.td3, Dfa.av, List.length_map]; (repeat refine And.intro (by first | omega | assumption | exact rfl) ?_); (first | refine V _ ?_ | refine Or.inl (V _ ?_)); clear V K0; simp only [put, app, aa, af, zE, zS, D])
    refine ah ?_
    refine hK15 _ ?_; clear hK15; refine ad [0, 1, 2, 4, 5, 6, 7, 8, 19, 24, 37] ?_; simp only [U, lkp, zE, reduceCtorEq, E, Y, D]
    refine aJ ?_
    refine ⟨by first | exact .inl rfl | exact .inr rfl, _, rfl, ?_⟩; simp only [fzV, fz1, fzC, List.map_cons, List.map_nil, U, lkp, zE, reduceCtorEq, E, Y, D, Dfa.av, List.length_map]
    first
    | (have e1 : cr op a b = cJ := if_pos hop
       have e2 : cp op a b = 2 := if_pos hop
       rw [e1, e2]; exact bC ⟨bB ⟨.refl _, .refl _, aQ rfl, aQ rfl, trivial⟩, bp (.refl _), trivial⟩)
    | (have e1 : cr op a b = cJ := by unfold cr; rw [if_neg hop, if_neg (by assumption)]
       have e2 : cp op a b = d4 a b := by unfold cp; rw [if_neg hop, if_neg (by assumption)]
       rw [e1, e2]; exact bC ⟨bB ⟨.refl _, .refl _, aQ rfl, aQ rfl, trivial⟩, bp (.refl _), trivial⟩)
    | (have e1 : cr op a b = cJ := by unfold cr; rw [if_neg hop, if_pos ht]; exact if_pos hbig
       have e2 : cp op a b = 11 := by unfold cp; rw [if_neg hop, if_pos ht]; exact if_pos hbig
       rw [e1, e2]; exact bC ⟨bB ⟨.refl _, .refl _, aQ rfl, aQ rfl, trivial⟩, bp (.refl _), trivial⟩)
    | (have e1 : cr op a b = dBn (bS a b) (ez op a b) a.inp.toNat (bv a b) := by unfold cr; rw [if_neg hop, if_pos ht]; exact if_neg (by omega)
       have e2 : cp op a b = 0 := by unfold cp; rw [if_neg hop, if_pos ht]; exact if_neg (by omega)
       rw [e1, e2, jO (by omega)]; exact VLE.of_eq rfl)
   ·(try simp only [zB, reduceCtorEq] at hc14)
    obtain ⟨hpe, hsm⟩ := t8 (show (fq a b 128).length ≤ 128 by omega)
    rw [hpe]
    refine aI ?_
    refine hK12 _ ?_; clear hK12; refine ad [0, 1, 2, 4, 5, 6, 7, 8, 19, 24, 37] ?_; simp only [U, lkp, zE, reduceCtorEq, E, Y, D]
    refine Z fun K16 hK16 => ?_
    refine ae hP hN rfl ?_
    iterate 5 (refine ab rfl fun K0 V => ?_; simp only [zE, op1, ev, lkp, ai, ag, aw, ay, Nat.mul_one, au, ax, acs, Ty.dflt, zG, ao, bM, aW, aN, am, bI, aX, aM, Ty.size, reduceCtorEq, E, D, J, S, M, O, Try.st25, Try.td25, Try.td3, Dfa.av, List.length_map]; (repeat refine And.intro (by first | omega | assumption | exact rfl) ?_); (first | refine V _ ?_ | refine Or.inl (V _ ?_)); clear V K0; simp only [put, app, aa, af, zE, zS, D])
    refine ah ?_
    refine hK16 _ ?_; clear hK16; refine ad [0, 1, 2, 4, 5, 6, 7, 8, 10, 19, 24, 37] ?_; simp only [U, lkp, zE, reduceCtorEq, E, Y, D]
    refine Z fun K17 hK17 => ?_
    refine Z fun K18 hK18 => ?_
    refine ae hP hN rfl ?_
    (refine ab rfl fun K0 V => ?_; simp only [zE, op1, ev, lkp, ai, ag, ev, reduceCtorEq, E, D, J, S, M, O, Try.td3, Dfa.av, List.length_map]; refine V _ ?_; clear V K0; simp only [put, app, aa, af, zE, zS, D])
    refine ah ?_
    refine hK18 _ ?_; clear hK18; refine ad [0, 1, 2, 4, 5, 6, 7, 8, 10, 11, 19, 24, 37] ?_; simp only [U, lkp, zE, reduceCtorEq, E, Y, D]
    refine aH ?_
    refine cF 3 2 (.list (.int .i64)) 26 (by decide) rfl rfl ?_; simp only [zS, List.length_cons, List.length_nil, List.cons_append, List.nil_append, Nat.zero_add, D]
    refine cF 3 3 (.bool) 4 (by decide) rfl rfl ?_; simp only [zS, List.length_cons, List.length_nil, List.cons_append, List.nil_append, Nat.zero_add, D]
    refine bj (fun n19 s19 => ∃ (k : Nat) (v : Nat), (k ≤ (bv a b).length) ∧ n19 = (bv a b).length - k ∧ s19 = { env := [(0, .one (.int .i64 op)), (4, .one (.ptr 0 0 0 0)), (5, .one (.ptr 1 0 0 0)), (6, .one (.ptr 2 0 0 0)), (7, .one (.int .i64 0)), (8, .one (.list (.pair (.int .i64) (.pair (.int .i64) .unit)) (List.map dV ((bv a b).map Prod.fst)))), (10, .one (.ptr 3 0 0 0)), (11, .one (.int .i64 (k : Int)))], L := [.vars 25 [.int .i64 a.inp, .int .i64 a.st, .list (.list (.int .i64)) a.nx, .list .bool a.acc], .vars 25 [.int .i64 b.inp, .int .i64 b.st, .list (.list (.int .i64)) b.nx, .list .bool b.acc], .vars 25 [.int .i64 0, .int .i64 0, .nils, .nils], .vars 25 [.int .i64 a.inp, .int .i64 0, .row 4 v, .row 5 v], .row (.list (.int .i64)) 26 v ((List.range k).map fun i => dRw (bS a b) a.inp.toNat (bv a b) i a.inp.toNat), .row .bool 4 v (((bv a b).take k).map fun e => ez op a b e.1)] }) ?_ ?_
    ·exact ⟨_, _, aE [0, 4, 5, 6, 7, 8, 10, 11], 0, 0, Nat.zero_le _, rfl, rfl⟩
    ·rintro n19 s19 ⟨k, v, hk, rfl, rfl⟩
     refine Z fun K20 hK20 => ?_
     refine Z fun K21 hK21 => ?_
     refine ae hP hN rfl ?_
     iterate 4 (refine ab rfl fun K0 V => ?_; simp only [zE, op1, ev, lkp, ai, ag, aK, br, bf, aY, b0, bn, Nat.div_one, aP, ba, Ty.size, aM, dite_true, aC, aB, aD, ak, az, aO, reduceCtorEq, E, D, J, S, M, O, Try.el89, Try.td3, Try.td4, Try.td89, Dfa.av, List.length_map]; (repeat refine And.intro (by first | omega | assumption | exact rfl) ?_); (first | refine V _ ?_ | refine Or.inl (V _ ?_)); clear V K0; simp only [put, app, aa, af, zE, zS, D])
     refine ah ?_
     refine hK21 _ ?_; clear hK21; refine ad [0, 4, 5, 6, 7, 8, 10, 11, 45] ?_; simp only [U, lkp, zE, reduceCtorEq, E, Y, D]
     refine aA (by simp only [ev, U, lkp, zE, reduceCtorEq, E, Y, D]; exact rfl) (fun hc22 => ?_) (fun hc22 => ?_)
     ·(try simp only [zB, reduceCtorEq] at hc22)
      refine aI ?_
      refine hK20 _ ?_; clear hK20; refine ad [0, 4, 5, 6, 7, 8, 10, 11, 45] ?_; simp only [U, lkp, zE, reduceCtorEq, E, Y, D]
      refine Z fun K23 hK23 => ?_
      refine aH ?_
      refine Z fun K24 hK24 => ?_
      refine ae hP hN rfl ?_
      (refine ab rfl fun K0 V => ?_; simp only [zE, op1, ev, lkp, ai, ag, ev, reduceCtorEq, E, D, J, S, M, O, Try.el26, Try.td26, Dfa.av, List.length_map]; refine V _ ?_; clear V K0; simp only [put, app, aa, af, zE, zS, D])
      refine ah ?_
      refine hK24 _ ?_; clear hK24; refine ad [0, 4, 5, 6, 7, 8, 10, 11, 12, 45] ?_; simp only [U, lkp, zE, reduceCtorEq, E, Y, D]
      refine Z fun K25 hK25 => ?_
      refine Z fun K26 hK26 => ?_
      refine ae hP hN rfl ?_
      (refine ab rfl fun K0 V => ?_; simp only [zE, op1, ev, lkp, ai, ag, ev, reduceCtorEq, E, D, J, S, M, O, Try.td3, Dfa.av, List.length_map]; refine V _ ?_; clear V K0; simp only [put, app, aa, af, zE, zS, D])
      refine ah ?_
      refine hK26 _ ?_; clear hK26; refine ad [0, 4, 5, 6, 7, 8, 10, 11, 12, 13, 45] ?_; simp only [U, lkp, zE, reduceCtorEq, E, Y, D]
      refine aH ?_
      refine fx 12 (.int .i64) 3 (by decide) rfl ?_; simp only [List.length_cons, List.length_nil, List.cons_append, List.nil_append, Nat.zero_add, D]
      refine bj (fun n27 s27 => ∃ (x : Nat) (w : Nat), ((x : Int) ≤ a.inp) ∧ n27 = a.inp.toNat - x ∧ s27 = { env := [(0, .one (.int .i64 op)), (4, .one (.ptr 0 0 0 0)), (5, .one (.ptr 1 0 0 0)), (6, .one (.ptr 2 0 0 0)), (7, .one (.int .i64 0)), (8, .one (.list (.pair (.int .i64) (.pair (.int .i64) .unit)) (List.map dV ((bv a b).map Prod.fst)))), (10, .one (.ptr 3 0 0 0)), (11, .one (.int .i64 (k : Int))), (12, .one (.row 6 w)), (13, .one (.int .i64 (x : Int)))], L := [.vars 25 [.int .i64 a.inp, .int .i64 a.st, .list (.list (.int .i64)) a.nx, .list .bool a.acc], .vars 25 [.int .i64 b.inp, .int .i64 b.st, .list (.list (.int .i64)) b.nx, .list .bool b.acc], .vars 25 [.int .i64 0, .int .i64 0, .nils, .nils], .vars 25 [.int .i64 a.inp, .int .i64 0, .row 4 v, .row 5 v], .row (.list (.int .i64)) 26 v ((List.range k).map fun i => dRw (bS a b) a.inp.toNat (bv a b) i a.inp.toNat), .row .bool 4 v (((bv a b).take k).map fun e => ez op a b e.1), .row (.int .i64) 3 w (dRw (bS a b) a.inp.toNat (bv a b) k x)] }) ?_ ?_
      ·exact ⟨_, _, aE [0, 4, 5, 6, 7, 8, 10, 11, 12, 13], 0, 0, by omega, rfl, rfl⟩
      ·rintro n27 s27 ⟨x, w, hx, rfl, rfl⟩
       refine Z fun K28 hK28 => ?_
       refine Z fun K29 hK29 => ?_
       refine ae hP hN rfl ?_
       iterate 4 (refine ab rfl fun K0 V => ?_; simp only [zE, op1, ev, lkp, ai, ag, aw, ay, Nat.mul_one, au, ax, acs, Ty.dflt, zG, ao, aC, aB, aD, ak, az, aO, reduceCtorEq, E, D, J, S, M, O, Try.st25, Try.td25, Try.td3, Try.td4, Dfa.av, List.length_map]; (repeat refine And.intro (by first | omega | assumption | exact rfl) ?_); refine V _ ?_; clear V K0; simp only [put, app, aa, af, zE, zS, D])
       refine ah ?_
       refine hK29 _ ?_; clear hK29; refine ad [0, 4, 5, 6, 7, 8, 10, 11, 12, 13, 51] ?_; simp only [U, lkp, zE, reduceCtorEq, E, Y, D]
       refine aA (by simp only [ev, U, lkp, zE, reduceCtorEq, E, Y, D]; exact rfl) (fun hc30 => ?_) (fun hc30 => ?_)
       ·(try simp only [zB, reduceCtorEq] at hc30)
        refine aI ?_
        refine hK28 _ ?_; clear hK28; refine ad [0, 4, 5, 6, 7, 8, 10, 11, 12, 13, 51] ?_; simp only [U, lkp, zE, reduceCtorEq, E, Y, D]
        refine Z fun K31 hK31 => ?_
        refine aH ?_
        have hkl : k < (bv a b).length := by omega
        have hgi : gt (.pair (.int .i64) (.pair (.int .i64) .unit)) (List.map dV ((bv a b).map Prod.fst)) (k : Int) = (((bv a b).getD k w30).1.1, (((bv a b).getD k w30).1.2, ())) := jf hkl _
        have hre := hdw.rg _ (cO hkl)
        obtain ⟨hr1, hr2⟩ := id hre
        have hra := ha.rli hr1; have hsa : ((a.nx.getD ((bv a b).getD k w30).1.1.toNat []).length : Int) = a.inp := hra; have hrb := hb.rli hr2; have hsb : ((b.nx.getD ((bv a b).getD k w30).1.2.toNat []).length : Int) = b.inp := hrb; have hua := ha.al; have hub := hb.al
        refine bY hP hN Try.mixed rfl ?_
        iterate 27 (refine ab rfl fun K0 V => ?_; simp only [zE, op1, ev, lkp, ai, ag, aw, ay, Nat.mul_one, au, ax, acs, Ty.dflt, zG, ao, aF, Ty.size, ne_eq, not_false_eq_true, Int.natCast_one, Int.mul_one, bM, aW, aN, am, reduceCtorEq, E, D, J, S, M, O, Try.el22, Try.el26, Try.el89, Try.fl93, Try.st25, Try.st93, Try.td1, Try.td2, Try.td22, Try.td25, Try.td26, Try.td3, Try.td89, Try.td93, Dfa.av, List.length_map, hgi, bZ]; (repeat refine And.intro (by first | omega | assumption | exact rfl) ?_); (first | refine V _ ?_ | refine Or.inl (V _ ?_)); clear V K0; simp only [put, app, aa, af, zE, zS, D])
        refine ab rfl fun K0 V => ?_
        refine aS (h := aG (lB ((bv a b).map Prod.fst) (bS a b ((bv a b).getD k w30).1 x) (by rw [List.length_map]; omega))) rfl rfl (by first | exact rfl | (simp only [ev, U, lkp, zE, reduceCtorEq, E, Y, D]; exact rfl)) (by simp only [zE, zG, op1, ev, lkp, ai, ag, am, acs, be, mv1, mvC, Ty.dflt, reduceCtorEq, E, D, J, S, M, O, Dfa.av, List.length_map, hgi, bZ, bS, Dfa.dl, Dfa.row, Int.toNat_natCast]) ?_
        refine V _ ?_; clear V K0; simp only [put, app, aa, af, zE, zS, D]
        iterate 3 (refine ab rfl fun K0 V => ?_; simp only [zE, op1, ev, lkp, ai, ag, aZ, aW, bW, rep, aM, aN, am, Ty.size, aK, br, bf, aY, b0, bn, Nat.div_one, aP, ba, dite_true, reduceCtorEq, E, D, J, S, M, O, Try.el26, Try.td1, Try.td26, Dfa.av, List.length_map, hgi, bZ]; (repeat refine And.intro (by first | omega | assumption | exact rfl) ?_); (first | refine V _ ?_ | refine Or.inl (V _ ?_)); clear V K0; simp only [put, app, aa, af, zE, zS, D])
        refine ah ?_
        refine ⟨by kernel_rfl, ?_⟩
        refine hK31 _ ?_; clear hK31; refine ad [0, 4, 5, 6, 7, 8, 10, 11, 12, 13, 51] ?_; simp only [U, lkp, zE, reduceCtorEq, E, Y, D]
        refine ae hP hN rfl ?_
        iterate 3 (refine ab rfl fun K0 V => ?_; simp only [zE, op1, ev, lkp, ai, ag, aC, aB, aD, ak, az, aO, reduceCtorEq, E, D, J, S, M, O, Try.td3, Dfa.av, List.length_map]; (repeat refine And.intro (by first | omega | assumption | exact rfl) ?_); refine V _ ?_; clear V K0; simp only [put, app, aa, af, zE, zS, D])
        refine ah ?_
        refine ⟨_, _, ?_, aE [0, 4, 5, 6, 7, 8, 10, 11, 12, 13], x + 1, w + 1, by omega, rfl, ?_⟩
        · omega
        · rw [lW]; rfl
       ·(try simp only [zB, reduceCtorEq] at hc30)
        refine bg ?_
        refine hK25 _ ?_; clear hK25; refine ad [0, 4, 5, 6, 7, 8, 10, 11, 12, 13, 51] ?_; simp only [U, lkp, zE, reduceCtorEq, E, Y, D]
        refine Z fun K32 hK32 => ?_
        refine cD 6 rfl ?_; simp only [List.map_cons, List.map_nil, zS, E, and_self, and_true, true_and, and_false, false_and, if_true, if_false, eq_self, reduceCtorEq, Nat.one_ne_zero, Nat.zero_ne_one]
        have hxn : x = a.inp.toNat := by omega
        subst hxn
        refine ae hP hN rfl ?_
        iterate 7 (refine ab rfl fun K0 V => ?_; simp only [zE, op1, ev, lkp, ai, ag, aw, ay, Nat.mul_one, au, ax, acs, Ty.dflt, zG, ao, aZ, aW, bW, rep, aM, aN, am, Ty.size, aK, br, bf, aY, b0, bn, Nat.div_one, aP, ba, dite_true, aX, reduceCtorEq, E, D, J, S, M, O, Try.el22, Try.el26, Try.st25, Try.td1, Try.td2, Try.td22, Try.td25, Try.td26, Dfa.av, List.length_map, bZ, List.length_range]; (repeat refine And.intro (by first | omega | assumption | exact rfl) ?_); (first | refine V _ ?_ | refine Or.inl (V _ ?_)); clear V K0; simp only [put, app, aa, af, zE, zS, D])
        refine ah ?_
        refine hK32 _ ?_; clear hK32; refine ad [0, 4, 5, 6, 7, 8, 10, 11, 12, 13, 51] ?_; simp only [U, lkp, zE, reduceCtorEq, E, Y, D]
        refine cK (n := 6) (L1 := [_, _, _, _, _, _]) rfl rfl (by rw [hB]; decide) rfl rfl ?_
        have hkl : k < (bv a b).length := by omega
        have hgi : gt (.pair (.int .i64) (.pair (.int .i64) .unit)) (List.map dV ((bv a b).map Prod.fst)) (k : Int) = (((bv a b).getD k w30).1.1, (((bv a b).getD k w30).1.2, ())) := jf hkl _
        have hre := hdw.rg _ (cO hkl)
        obtain ⟨hr1, hr2⟩ := id hre
        have hra := ha.rli hr1; have hsa : ((a.nx.getD ((bv a b).getD k w30).1.1.toNat []).length : Int) = a.inp := hra; have hrb := hb.rli hr2; have hsb : ((b.nx.getD ((bv a b).getD k w30).1.2.toNat []).length : Int) = b.inp := hrb; have hua := ha.al; have hub := hb.al
        refine bY hP hN Try.mixed rfl ?_
        iterate 21 (refine ab rfl fun K0 V => ?_; simp only [zE, op1, ev, lkp, ai, ag, aw, ay, Nat.mul_one, au, ax, acs, Ty.dflt, zG, ao, aF, Ty.size, ne_eq, not_false_eq_true, Int.natCast_one, Int.mul_one, reduceCtorEq, E, D, J, S, M, O, Try.el23, Try.el89, Try.fl93, Try.st25, Try.st93, Try.td1, Try.td23, Try.td25, Try.td3, Try.td4, Try.td89, Try.td93, Dfa.av, List.length_map, hgi, List.length_take]; (repeat refine And.intro (by first | omega | assumption | exact rfl) ?_); refine V _ ?_; clear V K0; simp only [put, app, aa, af, zE, zS, D])
        refine ab rfl fun K0 V => ?_
        refine aS (h := aG (pY op (a.acc.getD ((bv a b).getD k w30).1.1.toNat false) (b.acc.getD ((bv a b).getD k w30).1.2.toNat false))) rfl rfl (by first | exact rfl | (simp only [ev, U, lkp, zE, reduceCtorEq, E, Y, D]; exact rfl)) (by simp only [zE, zG, op1, ev, lkp, ai, ag, am, acs, be, mv1, mvC, Ty.dflt, reduceCtorEq, E, D, J, S, M, O, Dfa.av, List.length_map, hgi, List.length_take]) ?_
        refine V _ ?_; clear V K0; simp only [put, app, aa, af, zE, zS, D]
        iterate 4 (refine ab rfl fun K0 V => ?_; simp only [zE, op1, ev, lkp, ai, ag, aZ, aW, bW, rep, aM, aN, am, Ty.size, aK, br, bf, aY, b0, bn, Nat.div_one, aP, ba, dite_true, aw, aX, Nat.mul_one, acs, Ty.dflt, zG, reduceCtorEq, E, D, J, S, M, O, Try.el23, Try.st25, Try.td1, Try.td23, Try.td25, Try.td3, Dfa.av, List.length_map, hgi, List.length_take]; (repeat refine And.intro (by first | omega | assumption | exact rfl) ?_); (first | refine V _ ?_ | refine Or.inl (V _ ?_)); clear V K0; simp only [put, app, aa, af, zE, zS, D])
        refine ah ?_
        refine ⟨by kernel_rfl, ?_⟩
        refine hK23 _ ?_; clear hK23; refine ad [0, 4, 5, 6, 7, 8, 10, 11, 12, 13, 51] ?_; simp only [U, lkp, zE, reduceCtorEq, E, Y, D]
        refine ae hP hN rfl ?_
        iterate 3 (refine ab rfl fun K0 V => ?_; simp only [zE, op1, ev, lkp, ai, ag, aC, aB, aD, ak, az, aO, reduceCtorEq, E, D, J, S, M, O, Try.td3, Dfa.av, List.length_map]; (repeat refine And.intro (by first | omega | assumption | exact rfl) ?_); refine V _ ?_; clear V K0; simp only [put, app, aa, af, zE, zS, D])
        refine ah ?_
        refine ⟨_, _, ?_, aE [0, 4, 5, 6, 7, 8, 10, 11], k + 1, v + 1, by omega, rfl, ?_⟩
        · omega
        · rw [gy, dk _ w30 hkl]; rfl
     ·(try simp only [zB, reduceCtorEq] at hc22)
      refine bg ?_
      refine hK17 _ ?_; clear hK17; refine ad [0, 4, 5, 6, 7, 8, 10, 11, 45] ?_; simp only [U, lkp, zE, reduceCtorEq, E, Y, D]
      refine Z fun K33 hK33 => ?_
      refine cm 4 3 rfl rfl ?_; simp only [List.map_cons, List.map_nil, frC, zS, E, and_self, and_true, true_and, and_false, false_and, if_true, if_false, eq_self, reduceCtorEq, Nat.one_ne_zero, Nat.zero_ne_one]
      refine cm 5 3 rfl rfl ?_; simp only [List.map_cons, List.map_nil, frC, zS, E, and_self, and_true, true_and, and_false, false_and, if_true, if_false, eq_self, reduceCtorEq, Nat.one_ne_zero, Nat.zero_ne_one]
      have hke : k = (bv a b).length := by omega
      rw [hke, List.take_length]
      refine ae hP hN rfl ?_
      iterate 3 (refine ab rfl fun K0 V => ?_; simp only [zE, op1, ev, lkp, ai, ag, ay, Nat.mul_one, au, ax, acs, Ty.dflt, zG, ao, aX, am, aN, aM, Ty.size, reduceCtorEq, E, D, J, S, M, O, Try.st25, Try.td25, Try.td3, Dfa.av, List.length_map]; (repeat refine And.intro (by first | omega | assumption | exact rfl) ?_); refine V _ ?_; clear V K0; simp only [put, app, aa, af, zE, zS, D])
      refine ah ?_
      refine hK33 _ ?_; clear hK33; refine ad [0, 4, 5, 6, 7, 8, 10, 11, 45] ?_; simp only [U, lkp, zE, reduceCtorEq, E, Y, D]
      refine aJ ?_
      refine ⟨by first | exact .inl rfl | exact .inr rfl, _, rfl, ?_⟩; simp only [fzV, fz1, fzC, List.map_cons, List.map_nil, U, lkp, zE, reduceCtorEq, E, Y, D, Dfa.av, List.length_map]
      first
      | (have e1 : cr op a b = cJ := if_pos hop
         have e2 : cp op a b = 2 := if_pos hop
         rw [e1, e2]; exact bC ⟨bB ⟨.refl _, .refl _, aQ rfl, aQ rfl, trivial⟩, bp (.refl _), trivial⟩)
      | (have e1 : cr op a b = cJ := by unfold cr; rw [if_neg hop, if_neg (by assumption)]
         have e2 : cp op a b = d4 a b := by unfold cp; rw [if_neg hop, if_neg (by assumption)]
         rw [e1, e2]; exact bC ⟨bB ⟨.refl _, .refl _, aQ rfl, aQ rfl, trivial⟩, bp (.refl _), trivial⟩)
      | (have e1 : cr op a b = cJ := by unfold cr; rw [if_neg hop, if_pos ht]; exact if_pos hbig
         have e2 : cp op a b = 11 := by unfold cp; rw [if_neg hop, if_pos ht]; exact if_pos hbig
         rw [e1, e2]; exact bC ⟨bB ⟨.refl _, .refl _, aQ rfl, aQ rfl, trivial⟩, bp (.refl _), trivial⟩)
      | (have e1 : cr op a b = dBn (bS a b) (ez op a b) a.inp.toNat (bv a b) := by unfold cr; rw [if_neg hop, if_pos ht]; exact if_neg (by omega)
         have e2 : cp op a b = 0 := by unfold cp; rw [if_neg hop, if_pos ht]; exact if_neg (by omega)
         rw [e1, e2, jO (by omega)]; exact VLE.of_eq rfl)
end Go.Proofs.Ytdkgcbhbpdbmnaa
namespace Go.Proofs.Ytdkgcbhbpdbmnaa
open Go Go.AV
open Nat renaming reduceEqDiff → E, reduceAdd → D, reduceLeDiff → J, reduceLT → S, reduceMul → M, reduceSub → O
open List renaming set_cons_zero → ar, set_cons_succ → aq
theorem sU (d : Dfa) : bH Try.prog 23 [.one (.int .i64 0), d.av, d.av] (.tup [(trm d).av, .one (.int .i64 (cp 0 d d))]) := nA 0 d d

end Go.Proofs.Ytdkgcbhbpdbmnaa
