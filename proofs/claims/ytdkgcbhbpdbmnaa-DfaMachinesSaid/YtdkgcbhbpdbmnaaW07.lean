/- Contracts of functions of this seat, each out of a walk through its code, and plain facts on what they compute. Conditions: those that each theorem names. -/
import Derived.Test.YtdkgcbhbpdbmnaaW06
set_option linter.unusedSimpArgs false
set_option linter.unusedVariables false
namespace Go.Proofs.Ytdkgcbhbpdbmnaa
open Go Go.AV
open Nat renaming reduceEqDiff → E, reduceAdd → D, reduceLeDiff → J, reduceLT → S, reduceMul → M, reduceSub → O
open List renaming set_cons_zero → au, set_cons_succ → ar
set_option maxRecDepth 100000 in
theorem pa (d : Dfa) : bG Try.prog 32 [d.av] (.tup [(toM d).av, .one (.int .i64 (toE d))]) := by
 refine aR Try.func32 rfl (by kernel_rfl) (Nat.le_of_ble_eq_true rfl) rfl fun C hP hN hB => ?_
 replace hN : C.N = 64 := hN
 simp only [Y, D]
 refine aa fun K1 hK1 => ?_
 refine af hP hN rfl ?_
 iterate 3 (refine ab rfl fun K0 V => ?_; simp only [zE, op1, ev, lkp, ah, ag, ca, am, bE, reduceCtorEq, E, D, J, S, M, O, Try.st25, Try.st58, Try.td25, Try.td3, Try.td58, Dfa.av, Mly.av, List.getD_cons_zero, List.getD_cons_succ]; (repeat refine And.intro (by first | omega | assumption | exact rfl) ?_); (first | refine V _ ?_ | refine Or.inl (V _ ?_)); clear V K0; simp only [put, app, Z, ae, zE, zS, D])
 refine ai ?_
 refine hK1 _ ?_; clear hK1; refine ad [0, 1, 2, 3] ?_; simp only [U, lkp, zE, reduceCtorEq, E, Y, D]
 refine aa fun K2 hK2 => ?_
 refine aa fun K3 hK3 => ?_
 refine af hP hN rfl ?_
 (refine ab rfl fun K0 V => ?_; simp only [zE, op1, ev, lkp, ah, ag, ay, Nat.mul_one, aw, ax, acs, Ty.dflt, zG, ak, reduceCtorEq, E, D, J, S, M, O, Try.st25, Try.td25, Dfa.av, Mly.av, List.getD_cons_zero, List.getD_cons_succ]; (repeat refine And.intro (by first | omega | assumption | exact rfl) ?_); refine V _ ?_; clear V K0; simp only [put, app, Z, ae, zE, zS, D])
 refine ab rfl fun K0 V => ?_
 refine aT (h := aL (jj d)) rfl rfl (by first | exact rfl | (simp only [ev, U, lkp, zE, reduceCtorEq, E, Y, D]; exact rfl)) (by simp only [zE, zG, op1, ev, lkp, ah, ag, am, acs, be, mv1, mvC, Ty.dflt, reduceCtorEq, E, D, J, S, M, O, Dfa.av, Mly.av, List.getD_cons_zero, List.getD_cons_succ]) ?_
 refine V _ ?_; clear V K0; simp only [put, app, Z, ae, zE, zS, D]
 (refine ab rfl fun K0 V => ?_; simp only [zE, op1, ev, lkp, ah, ag, aB, aD, aC, aq, az, aP, reduceCtorEq, E, D, J, S, M, O, Try.td3, Try.td4, Dfa.av, Mly.av, List.getD_cons_zero, List.getD_cons_succ]; (repeat refine And.intro (by first | omega | assumption | exact rfl) ?_); refine V _ ?_; clear V K0; simp only [put, app, Z, ae, zE, zS, D])
 refine ai ?_
 refine hK3 _ ?_; clear hK3; refine ad [0, 1, 2, 3, 10] ?_; simp only [U, lkp, zE, reduceCtorEq, E, Y, D]
 refine aA (by simp only [ev, U, lkp, zE, reduceCtorEq, E, Y, D]; exact rfl) (fun hc4 => ?_) (fun hc4 => ?_)
 ·(try simp only [zB, reduceCtorEq] at hc4)
  refine aa fun K5 hK5 => ?_
  refine af hP hN rfl ?_
  iterate 2 (refine ab rfl fun K0 V => ?_; simp only [zE, op1, ev, lkp, ah, ag, bH, b0, aO, am, ay, Nat.mul_one, aw, ax, acs, Ty.dflt, zG, ak, reduceCtorEq, E, D, J, S, M, O, Try.st25, Try.st58, Try.td25, Try.td58, Dfa.av, Mly.av, List.getD_cons_zero, List.getD_cons_succ]; (repeat refine And.intro (by first | omega | assumption | exact rfl) ?_); (first | refine V _ ?_ | refine Or.inl (V _ ?_)); clear V K0; simp only [put, app, Z, ae, zE, zS, D])
  refine ab rfl fun K0 V => ?_
  refine aT (h := aL (jj d)) rfl rfl (by first | exact rfl | (simp only [ev, U, lkp, zE, reduceCtorEq, E, Y, D]; exact rfl)) (by simp only [zE, zG, op1, ev, lkp, ah, ag, am, acs, be, mv1, mvC, Ty.dflt, reduceCtorEq, E, D, J, S, M, O, Dfa.av, Mly.av, List.getD_cons_zero, List.getD_cons_succ]) ?_
  refine V _ ?_; clear V K0; simp only [put, app, Z, ae, zE, zS, D]
  iterate 2 (refine ab rfl fun K0 V => ?_; simp only [zE, op1, ev, lkp, ah, ag, aZ, Nat.mul_one, am, aO, aI, acs, Ty.size, Ty.dflt, zG, reduceCtorEq, E, D, J, S, M, O, Try.st58, Try.td3, Try.td58, Dfa.av, Mly.av, List.getD_cons_zero, List.getD_cons_succ]; (repeat refine And.intro (by first | omega | assumption | exact rfl) ?_); refine V _ ?_; clear V K0; simp only [put, app, Z, ae, zE, zS, D])
  refine ai ?_
  refine hK5 _ ?_; clear hK5; refine ad [0, 1, 2, 3, 10] ?_; simp only [U, lkp, zE, reduceCtorEq, E, Y, D]
  refine aH ?_
  refine ⟨by first | exact .inl rfl | exact .inr rfl, _, rfl, ?_⟩; simp only [fzV, fz1, fzC, List.map_cons, List.map_nil, U, lkp, zE, reduceCtorEq, E, Y, D, Dfa.av, Mly.av, List.getD_cons_zero, List.getD_cons_succ]
  first
  | (have g9 := kP (by assumption); obtain ⟨g1, g2⟩ := g9; rw [g1, g2]; exact br ⟨bp ⟨.refl _, .refl _, aQ rfl, aQ rfl, trivial⟩, bf (.refl _), trivial⟩)
  | (have g9 := kU hv (by omega); obtain ⟨g1, g2⟩ := g9; rw [g1, g2]; exact br ⟨bp ⟨.refl _, .refl _, aQ rfl, aQ rfl, trivial⟩, bf (.refl _), trivial⟩)
  | (have g9 := iB hv (by omega); obtain ⟨g1, g2⟩ := g9; rw [g1, g2]; exact VLE.of_eq rfl)
 ·(try simp only [zB, reduceCtorEq] at hc4)
  have hv : bl d = 0 := by omega
  have hd := et hv; have a1 := hd.i1; have a2 := hd.i2; have a3 := hd.n1; have a4 := hd.n2; have a5 := hd.s1; have a6 := hd.s2; have a7 := hd.al
  refine aG ?_
  refine hK2 _ ?_; clear hK2; refine ad [0, 1, 2, 3, 10] ?_; simp only [U, lkp, zE, reduceCtorEq, E, Y, D]
  refine aa fun K6 hK6 => ?_
  refine aa fun K7 hK7 => ?_
  refine af hP hN rfl ?_
  iterate 3 (refine ab rfl fun K0 V => ?_; simp only [zE, op1, ev, lkp, ah, ag, ao, ay, Nat.mul_one, aw, ax, acs, Ty.dflt, zG, ak, aB, aD, aC, aq, az, aP, reduceCtorEq, E, D, J, S, M, O, Try.st25, Try.td25, Try.td3, Try.td4, Dfa.av, Mly.av, List.getD_cons_zero, List.getD_cons_succ]; (repeat refine And.intro (by first | omega | assumption | exact rfl) ?_); refine V _ ?_; clear V K0; simp only [put, app, Z, ae, zE, zS, D])
  refine ai ?_
  refine hK7 _ ?_; clear hK7; refine ad [0, 1, 2, 3, 10, 16] ?_; simp only [U, lkp, zE, reduceCtorEq, E, Y, D]
  refine aA (by simp only [ev, U, lkp, zE, reduceCtorEq, E, Y, D]; exact rfl) (fun hc8 => ?_) (fun hc8 => ?_)
  ·(try simp only [zB, reduceCtorEq] at hc8)
   refine aa fun K9 hK9 => ?_
   refine af hP hN rfl ?_
   iterate 3 (refine ab rfl fun K0 V => ?_; simp only [zE, op1, ev, lkp, ah, ag, bH, b0, aO, am, aZ, Nat.mul_one, aI, acs, Ty.size, Ty.dflt, zG, reduceCtorEq, E, D, J, S, M, O, Try.st58, Try.td3, Try.td58, Dfa.av, Mly.av, List.getD_cons_zero, List.getD_cons_succ]; (repeat refine And.intro (by first | omega | assumption | exact rfl) ?_); (first | refine V _ ?_ | refine Or.inl (V _ ?_)); clear V K0; simp only [put, app, Z, ae, zE, zS, D])
   refine ai ?_
   refine hK9 _ ?_; clear hK9; refine ad [0, 1, 2, 3, 10, 16] ?_; simp only [U, lkp, zE, reduceCtorEq, E, Y, D]
   refine aH ?_
   refine ⟨by first | exact .inl rfl | exact .inr rfl, _, rfl, ?_⟩; simp only [fzV, fz1, fzC, List.map_cons, List.map_nil, U, lkp, zE, reduceCtorEq, E, Y, D, Dfa.av, Mly.av, List.getD_cons_zero, List.getD_cons_succ]
   first
   | (have g9 := kP (by assumption); obtain ⟨g1, g2⟩ := g9; rw [g1, g2]; exact br ⟨bp ⟨.refl _, .refl _, aQ rfl, aQ rfl, trivial⟩, bf (.refl _), trivial⟩)
   | (have g9 := kU hv (by omega); obtain ⟨g1, g2⟩ := g9; rw [g1, g2]; exact br ⟨bp ⟨.refl _, .refl _, aQ rfl, aQ rfl, trivial⟩, bf (.refl _), trivial⟩)
   | (have g9 := iB hv (by omega); obtain ⟨g1, g2⟩ := g9; rw [g1, g2]; exact VLE.of_eq rfl)
  ·(try simp only [zB, reduceCtorEq] at hc8)
   refine aG ?_
   refine hK6 _ ?_; clear hK6; refine ad [0, 1, 2, 3, 10, 16] ?_; simp only [U, lkp, zE, reduceCtorEq, E, Y, D]
   refine aa fun K10 hK10 => ?_
   refine eB ?_; simp only [List.cons_append, List.append_assoc, List.nil_append]
   refine bP hP hN Try.mixed rfl ?_
   iterate 5 (refine ab rfl fun K0 V => ?_; simp only [zE, op1, ev, lkp, ah, ag, ao, ay, Nat.mul_one, aw, ax, acs, Ty.dflt, zG, ak, reduceCtorEq, E, D, J, S, M, O, Try.st25, Try.td1, Try.td25, Try.td3, Dfa.av, Mly.av, List.getD_cons_zero, List.getD_cons_succ]; (repeat refine And.intro (by first | omega | assumption | exact rfl) ?_); refine V _ ?_; clear V K0; simp only [put, app, Z, ae, zE, zS, D])
   refine ab rfl fun K0 V => ?_
   refine aT (h := aL (nf d hd)) rfl rfl (by first | exact rfl | (simp only [ev, U, lkp, zE, reduceCtorEq, E, Y, D]; exact rfl)) (by simp only [zE, zG, op1, ev, lkp, ah, ag, am, acs, be, mv1, mvC, Ty.dflt, reduceCtorEq, E, D, J, S, M, O, Dfa.av, Mly.av, List.getD_cons_zero, List.getD_cons_succ]) ?_
   refine V _ ?_; clear V K0; simp only [put, app, Z, ae, zE, zS, D]
   iterate 2 (refine ab rfl fun K0 V => ?_; simp only [zE, op1, ev, lkp, ah, ag, hS, aw, ax, acs, bH, b0, aO, am, reduceCtorEq, E, D, J, S, M, O, Try.el22, Try.el23, Try.el26, Try.st25, Try.st58, Try.td1, Try.td2, Try.td22, Try.td23, Try.td25, Try.td26, Try.td3, Try.td4, Try.td58, Dfa.av, Mly.av, List.getD_cons_zero, List.getD_cons_succ]; (repeat refine And.intro (by first | omega | assumption | exact rfl) ?_); (first | refine V _ ?_ | refine Or.inl (V _ ?_)); clear V K0; simp only [put, app, Z, ae, zE, zS, D])
   (refine ab rfl fun K0 V => ?_; simp only [zE, op1, ev, lkp, ah, ag, bE, reduceCtorEq, E, D, J, S, M, O, Try.st58, Try.td58, Dfa.av, Mly.av, List.getD_cons_zero, List.getD_cons_succ]; refine Or.inr (Or.inr ⟨2, ?_, ?_⟩); (exact rfl); (repeat refine And.intro (by first | rfl | decide) ?_); refine V _ ?_; clear V K0; simp only [put, app, Z, ae, zE, zS, D])
   (refine ab rfl fun K0 V => ?_; simp only [zE, op1, ev, lkp, ah, ag, aZ, Nat.mul_one, am, aO, aI, acs, Ty.size, Ty.dflt, zG, reduceCtorEq, E, D, J, S, M, O, Try.st58, Try.td58, Dfa.av, Mly.av, List.getD_cons_zero, List.getD_cons_succ]; (repeat refine And.intro (by first | omega | assumption | exact rfl) ?_); refine V _ ?_; clear V K0; simp only [put, app, Z, ae, zE, zS, D])
   refine ai ?_
   refine ⟨by kernel_rfl, ?_⟩
   refine hK10 _ ?_; clear hK10; refine ad [0, 1, 2, 3, 4, 10, 16] ?_; simp only [U, lkp, zE, reduceCtorEq, E, Y, D]
   refine aa fun K11 hK11 => ?_
   refine aa fun K12 hK12 => ?_
   refine af hP hN rfl ?_
   (refine ab rfl fun K0 V => ?_; simp only [zE, op1, ev, lkp, ah, ag, ev, reduceCtorEq, E, D, J, S, M, O, Try.td3, Dfa.av, Mly.av, List.getD_cons_zero, List.getD_cons_succ]; refine V _ ?_; clear V K0; simp only [put, app, Z, ae, zE, zS, D])
   refine ai ?_
   refine hK12 _ ?_; clear hK12; refine ad [0, 1, 2, 3, 4, 5, 10, 16] ?_; simp only [U, lkp, zE, reduceCtorEq, E, Y, D]
   refine aN ?_
   refine fP 2 3 (.list (.int .i64)) 26 (by decide) rfl rfl ?_; simp only [zS, List.length_cons, List.length_nil, List.cons_append, List.nil_append, Nat.zero_add, D]
   refine bo (fun n13 s13 => ∃ (k : Nat) (v : Nat), (k ≤ d.nx.length) ∧ n13 = d.nx.length - k ∧ s13 = { env := [(1, .one (.ptr 0 0 0 0)), (2, .one (.ptr 1 0 0 0)), (3, .one (.int .i64 0)), (4, .one (.ptr 2 1 0 0)), (5, .one (.int .i64 (k : Int)))], L := [.vars 25 [.int .i64 d.inp, .int .i64 d.st, .list (.list (.int .i64)) d.nx, .list .bool d.acc], .vars 58 [.int .i64 0, .int .i64 0, .nils, .nils], .rowc 58 4 1 [.int .i64 d.inp, .int .i64 d.st, .list (.list (.int .i64)) d.nx, .row 3 v], .row (.list (.int .i64)) 26 v (d.om.take k)] }) ?_ ?_
   ·exact ⟨_, _, aJ [1, 2, 3, 4, 5], 0, 0, Nat.zero_le _, rfl, rfl⟩
   ·rintro n13 s13 ⟨k, v, hk, rfl, rfl⟩
    refine aa fun K14 hK14 => ?_
    refine aa fun K15 hK15 => ?_
    refine af hP hN rfl ?_
    iterate 5 (refine ab rfl fun K0 V => ?_; simp only [zE, op1, ev, lkp, ah, ag, ao, ay, Nat.mul_one, aw, ax, acs, Ty.dflt, zG, ak, aE, bj, ba, aU, aV, bg, Nat.div_one, aM, aX, Ty.size, aI, dite_true, aB, aD, aC, aq, az, aP, reduceCtorEq, E, D, J, S, M, O, Try.el22, Try.st25, Try.td2, Try.td22, Try.td25, Try.td3, Try.td4, Dfa.av, Mly.av, List.getD_cons_zero, List.getD_cons_succ]; (repeat refine And.intro (by first | omega | assumption | exact rfl) ?_); (first | refine V _ ?_ | refine Or.inl (V _ ?_)); clear V K0; simp only [put, app, Z, ae, zE, zS, D])
    refine ai ?_
    refine hK15 _ ?_; clear hK15; refine ad [1, 2, 3, 4, 5, 30] ?_; simp only [U, lkp, zE, reduceCtorEq, E, Y, D]
    refine aA (by simp only [ev, U, lkp, zE, reduceCtorEq, E, Y, D]; exact rfl) (fun hc16 => ?_) (fun hc16 => ?_)
    ·(try simp only [zB, reduceCtorEq] at hc16)
     refine aG ?_
     refine hK14 _ ?_; clear hK14; refine ad [1, 2, 3, 4, 5, 30] ?_; simp only [U, lkp, zE, reduceCtorEq, E, Y, D]
     refine aa fun K17 hK17 => ?_
     refine aN ?_
     refine aa fun K18 hK18 => ?_
     have hrl : ((d.nx.getD k []).length : Int) = d.inp := hd.rl k (by omega)
     refine af hP hN rfl ?_
     iterate 4 (refine ab rfl fun K0 V => ?_; simp only [zE, op1, ev, lkp, ah, ag, ao, ay, Nat.mul_one, aw, ax, acs, Ty.dflt, zG, ak, cA, aI, Ty.size, reduceCtorEq, E, D, J, S, M, O, Try.el26, Try.st25, Try.td25, Try.td26, Try.td3, Dfa.av, Mly.av, List.getD_cons_zero, List.getD_cons_succ]; (repeat refine And.intro (by first | omega | assumption | exact rfl) ?_); (first | refine V _ ?_ | refine Or.inl (V _ ?_)); clear V K0; simp only [put, app, Z, ae, zE, zS, D])
     refine ai ?_
     refine hK18 _ ?_; clear hK18; refine ad [1, 2, 3, 4, 5, 6, 30] ?_; simp only [U, lkp, zE, reduceCtorEq, E, Y, D]
     refine aa fun K19 hK19 => ?_
     refine aa fun K20 hK20 => ?_
     refine af hP hN rfl ?_
     (refine ab rfl fun K0 V => ?_; simp only [zE, op1, ev, lkp, ah, ag, ev, reduceCtorEq, E, D, J, S, M, O, Try.td3, Dfa.av, Mly.av, List.getD_cons_zero, List.getD_cons_succ]; refine V _ ?_; clear V K0; simp only [put, app, Z, ae, zE, zS, D])
     refine ai ?_
     refine hK20 _ ?_; clear hK20; refine ad [1, 2, 3, 4, 5, 6, 7, 30] ?_; simp only [U, lkp, zE, reduceCtorEq, E, Y, D]
     refine aN ?_
     refine bo (fun n21 s21 => ∃ (j : Nat), ((j : Int) ≤ d.inp) ∧ n21 = d.inp.toNat - j ∧ s21 = { env := [(1, .one (.ptr 0 0 0 0)), (2, .one (.ptr 1 0 0 0)), (3, .one (.int .i64 0)), (4, .one (.ptr 2 1 0 0)), (5, .one (.int .i64 (k : Int))), (6, .one (.row 4 0)), (7, .one (.int .i64 (j : Int)))], L := [.vars 25 [.int .i64 d.inp, .int .i64 d.st, .list (.list (.int .i64)) d.nx, .list .bool d.acc], .vars 58 [.int .i64 0, .int .i64 0, .nils, .nils], .rowc 58 4 1 [.int .i64 d.inp, .int .i64 d.st, .list (.list (.int .i64)) d.nx, .row 3 v], .row (.list (.int .i64)) 26 v (d.om.take k), .row (.int .i64) 3 0 (prL (omf d k) d.inp.toNat j 0)] }) ?_ ?_
     ·exact ⟨_, _, aJ [1, 2, 3, 4, 5, 6, 7], 0, by omega, rfl, by rw [kf]; rfl⟩
     ·rintro n21 s21 ⟨j, hj, rfl, rfl⟩
      refine aa fun K22 hK22 => ?_
      refine aa fun K23 hK23 => ?_
      refine af hP hN rfl ?_
      iterate 4 (refine ab rfl fun K0 V => ?_; simp only [zE, op1, ev, lkp, ah, ag, ao, ay, Nat.mul_one, aw, ax, acs, Ty.dflt, zG, ak, aB, aD, aC, aq, az, aP, reduceCtorEq, E, D, J, S, M, O, Try.st25, Try.td25, Try.td3, Try.td4, Dfa.av, Mly.av, List.getD_cons_zero, List.getD_cons_succ]; (repeat refine And.intro (by first | omega | assumption | exact rfl) ?_); refine V _ ?_; clear V K0; simp only [put, app, Z, ae, zE, zS, D])
      refine ai ?_
      refine hK23 _ ?_; clear hK23; refine ad [1, 2, 3, 4, 5, 6, 7, 39] ?_; simp only [U, lkp, zE, reduceCtorEq, E, Y, D]
      refine aA (by simp only [ev, U, lkp, zE, reduceCtorEq, E, Y, D]; exact rfl) (fun hc24 => ?_) (fun hc24 => ?_)
      ·(try simp only [zB, reduceCtorEq] at hc24)
       refine aG ?_
       refine hK22 _ ?_; clear hK22; refine ad [1, 2, 3, 4, 5, 6, 7, 39] ?_; simp only [U, lkp, zE, reduceCtorEq, E, Y, D]
       refine aa fun K25 hK25 => ?_
       refine aN ?_
       refine aa fun K26 hK26 => ?_
       have hcl : 0 ≤ (d.nx.getD k []).getD j 0 ∧ (d.nx.getD k []).getD j 0 < d.nx.length := hd.cl k j (by omega) (by omega)
       refine bP hP hN Try.mixed rfl ?_
       iterate 12 (refine ab rfl fun K0 V => ?_; simp only [zE, op1, ev, lkp, ah, ag, ao, ay, Nat.mul_one, aw, ax, acs, Ty.dflt, zG, ak, aK, Ty.size, ne_eq, not_false_eq_true, Int.natCast_one, Int.mul_one, reduceCtorEq, E, D, J, S, M, O, Try.el22, Try.el23, Try.el26, Try.st25, Try.td2, Try.td22, Try.td23, Try.td25, Try.td26, Try.td3, Try.td4, Dfa.av, Mly.av, List.getD_cons_zero, List.getD_cons_succ]; (repeat refine And.intro (by first | omega | assumption | exact rfl) ?_); refine V _ ?_; clear V K0; simp only [put, app, Z, ae, zE, zS, D])
       refine ai ?_
       refine ⟨by kernel_rfl, ?_⟩
       refine hK26 _ ?_; clear hK26; refine ad [1, 2, 3, 4, 5, 6, 7, 39, 53] ?_; simp only [U, lkp, zE, reduceCtorEq, E, Y, D]
       refine aA (by simp only [ev, U, lkp, zE, reduceCtorEq, E, Y, D]; exact rfl) (fun hc27 => ?_) (fun hc27 => ?_)
       ·(try simp only [zB, reduceCtorEq] at hc27)
        have hat : d.ac ((d.nx.getD k []).getD j 0) = true := hc27
        refine af hP hN rfl ?_
        iterate 4 (refine ab rfl fun K0 V => ?_; simp only [zE, op1, ev, lkp, ah, ag, aK, zG, Ty.dflt, Ty.size, Nat.mul_one, ne_eq, not_false_eq_true, Int.natCast_one, Int.mul_one, aZ, am, aO, aI, acs, reduceCtorEq, E, D, J, S, M, O, Try.el26, Try.td26, Try.td3, Dfa.av, Mly.av, List.getD_cons_zero, List.getD_cons_succ, dT]; (repeat refine And.intro (by first | omega | assumption | exact rfl) ?_); refine V _ ?_; clear V K0; simp only [put, app, Z, ae, zE, zS, D])
        refine ai ?_
        refine hK25 _ ?_; clear hK25; refine ad [1, 2, 3, 4, 5, 6, 7, 39, 53] ?_; simp only [U, lkp, zE, reduceCtorEq, E, Y, D]
        refine af hP hN rfl ?_
        iterate 3 (refine ab rfl fun K0 V => ?_; simp only [zE, op1, ev, lkp, ah, ag, aB, aD, aC, aq, az, aP, reduceCtorEq, E, D, J, S, M, O, Try.td3, Dfa.av, Mly.av, List.getD_cons_zero, List.getD_cons_succ]; (repeat refine And.intro (by first | omega | assumption | exact rfl) ?_); refine V _ ?_; clear V K0; simp only [put, app, Z, ae, zE, zS, D])
        refine ai ?_
        first
        | (refine ⟨_, _, ?_, aJ [1, 2, 3, 4, 5, 6, 7], j + 1, by omega, rfl, ?_⟩
           · omega
           · rw [← pP (by omega) hat]; rfl)
        | (refine ⟨_, _, ?_, aJ [1, 2, 3, 4, 5, 6, 7], j + 1, by omega, rfl, ?_⟩
           · omega
           · rw [← qe hat]; rfl)
       ·(try simp only [zB, reduceCtorEq] at hc27)
        have hat : d.ac ((d.nx.getD k []).getD j 0) = false := by simpa [Dfa.ac] using hc27
        refine aG ?_
        refine hK25 _ ?_; clear hK25; refine ad [1, 2, 3, 4, 5, 6, 7, 39, 53] ?_; simp only [U, lkp, zE, reduceCtorEq, E, Y, D]
        refine af hP hN rfl ?_
        iterate 3 (refine ab rfl fun K0 V => ?_; simp only [zE, op1, ev, lkp, ah, ag, aB, aD, aC, aq, az, aP, reduceCtorEq, E, D, J, S, M, O, Try.td3, Dfa.av, Mly.av, List.getD_cons_zero, List.getD_cons_succ]; (repeat refine And.intro (by first | omega | assumption | exact rfl) ?_); refine V _ ?_; clear V K0; simp only [put, app, Z, ae, zE, zS, D])
        refine ai ?_
        first
        | (refine ⟨_, _, ?_, aJ [1, 2, 3, 4, 5, 6, 7], j + 1, by omega, rfl, ?_⟩
           · omega
           · rw [← pP (by omega) hat]; rfl)
        | (refine ⟨_, _, ?_, aJ [1, 2, 3, 4, 5, 6, 7], j + 1, by omega, rfl, ?_⟩
           · omega
           · rw [← qe hat]; rfl)
      ·(try simp only [zB, reduceCtorEq] at hc24)
       refine bm ?_
       refine hK19 _ ?_; clear hK19; refine ad [1, 2, 3, 4, 5, 6, 7, 39] ?_; simp only [U, lkp, zE, reduceCtorEq, E, Y, D]
       refine cG 4 rfl ?_; simp only [List.map_cons, List.map_nil, zS, E, and_self, and_true, true_and, and_false, false_and, if_true, if_false, eq_self, reduceCtorEq, Nat.one_ne_zero, Nat.zero_ne_one]
       have hji : j = d.inp.toNat := by omega
       rw [hji, g0, qs (by omega)]
       refine af hP hN rfl ?_
       iterate 7 (refine ab rfl fun K0 V => ?_; simp only [zE, op1, ev, lkp, ah, ag, ao, ay, Nat.mul_one, aw, ax, acs, Ty.dflt, zG, ak, bb, b0, bQ, rep, aI, aO, am, Ty.size, aE, bj, ba, aU, aV, bg, Nat.div_one, aM, aX, dite_true, aZ, reduceCtorEq, E, D, J, S, M, O, Try.el22, Try.el26, Try.st58, Try.td1, Try.td22, Try.td26, Try.td3, Try.td58, Dfa.av, Mly.av, List.getD_cons_zero, List.getD_cons_succ, List.length_take, lb]; (repeat refine And.intro (by first | omega | assumption | exact rfl) ?_); (first | refine V _ ?_ | refine Or.inl (V _ ?_)); clear V K0; simp only [put, app, Z, ae, zE, zS, D])
       refine ai ?_
       refine hK17 _ ?_; clear hK17; refine ad [1, 2, 3, 4, 5, 6, 7, 39] ?_; simp only [U, lkp, zE, reduceCtorEq, E, Y, D]
       refine cQ (n := 4) (L1 := [_, _, _, _]) rfl rfl (by rw [hB]; decide) rfl rfl ?_
       refine af hP hN rfl ?_
       iterate 3 (refine ab rfl fun K0 V => ?_; simp only [zE, op1, ev, lkp, ah, ag, aB, aD, aC, aq, az, aP, reduceCtorEq, E, D, J, S, M, O, Try.td3, Dfa.av, Mly.av, List.getD_cons_zero, List.getD_cons_succ]; (repeat refine And.intro (by first | omega | assumption | exact rfl) ?_); refine V _ ?_; clear V K0; simp only [put, app, Z, ae, zE, zS, D])
       refine ai ?_
       refine ⟨_, _, ?_, aJ [1, 2, 3, 4, 5], k + 1, v + 1, by omega, rfl, ?_⟩
       · omega
       · rw [mr (by omega)]; rfl
    ·(try simp only [zB, reduceCtorEq] at hc16)
     refine bm ?_
     refine hK11 _ ?_; clear hK11; refine ad [1, 2, 3, 4, 5, 30] ?_; simp only [U, lkp, zE, reduceCtorEq, E, Y, D]
     refine aa fun K28 hK28 => ?_
     refine eZ 3 2 rfl rfl ?_; simp only [List.map_cons, List.map_nil, frC, zS, E, and_self, and_true, true_and, and_false, false_and, if_true, if_false, eq_self, reduceCtorEq, Nat.one_ne_zero, Nat.zero_ne_one]
     obtain rfl : k = d.nx.length := by omega
     rw [nY]
     refine af hP hN rfl ?_
     iterate 3 (refine ab rfl fun K0 V => ?_; simp only [zE, op1, ev, lkp, ah, ag, ay, Nat.mul_one, aw, ax, acs, Ty.dflt, zG, ak, aZ, am, aO, aI, Ty.size, reduceCtorEq, E, D, J, S, M, O, Try.st58, Try.td3, Try.td58, Dfa.av, Mly.av, List.getD_cons_zero, List.getD_cons_succ]; (repeat refine And.intro (by first | omega | assumption | exact rfl) ?_); refine V _ ?_; clear V K0; simp only [put, app, Z, ae, zE, zS, D])
     refine ai ?_
     refine hK28 _ ?_; clear hK28; refine ad [1, 2, 3, 4, 5, 30] ?_; simp only [U, lkp, zE, reduceCtorEq, E, Y, D]
     refine aH ?_
     refine ⟨by first | exact .inl rfl | exact .inr rfl, _, rfl, ?_⟩; simp only [fzV, fz1, fzC, List.map_cons, List.map_nil, U, lkp, zE, reduceCtorEq, E, Y, D, Dfa.av, Mly.av, List.getD_cons_zero, List.getD_cons_succ]
     first
     | (have g9 := kP (by assumption); obtain ⟨g1, g2⟩ := g9; rw [g1, g2]; exact br ⟨bp ⟨.refl _, .refl _, aQ rfl, aQ rfl, trivial⟩, bf (.refl _), trivial⟩)
     | (have g9 := kU hv (by omega); obtain ⟨g1, g2⟩ := g9; rw [g1, g2]; exact br ⟨bp ⟨.refl _, .refl _, aQ rfl, aQ rfl, trivial⟩, bf (.refl _), trivial⟩)
     | (have g9 := iB hv (by omega); obtain ⟨g1, g2⟩ := g9; rw [g1, g2]; exact VLE.of_eq rfl)
end Go.Proofs.Ytdkgcbhbpdbmnaa
namespace Go.AV
open Nat renaming reduceEqDiff → E, reduceAdd → D, reduceLeDiff → J, reduceLT → S, reduceMul → M, reduceSub → O
open List renaming set_cons_zero → au, set_cons_succ → ar
/-plain-/
/-! On dmeqTh, dfmTh. -/
theorem iU (a : Dfa) : ga a a = true := jr.2 rfl
theorem qP (A : STP) (G : PP → Bool) (n : Nat) (L : List W3) : (dBD A G n L).acc.length ≤ 1000 := by
  unfold dBD
  split
  · decide
  · show (L.map fun e => G e.1).length ≤ 1000
    rw [List.length_map]; omega
theorem rh (m : Mly) (acc : Bool) : (fmD m acc).acc.length ≤ 1000 := by
  unfold fmD
  split
  · decide
  · split
    · decide
    · exact qP _ _ _ _
end Go.AV
namespace Go.AV
open Nat renaming reduceEqDiff → E, reduceAdd → D, reduceLeDiff → J, reduceLT → S, reduceMul → M, reduceSub → O
open List renaming set_cons_zero → au, set_cons_succ → ar
/-plain-/
def kR (l : List (List Int)) (k : Nat) : Bool := (List.range (min l.length k)).any (fun i => decide (6 < (l.getD i []).length))
theorem gx {l : List (List Int)} {k i : Nat} (h : i < l.length) (h2 : i < k) (h3 : 6 < (l.getD i []).length) : kR l k = true := List.any_eq_true.2 ⟨i, List.mem_range.2 (by omega), by simpa using h3⟩
theorem jg {l : List (List Int)} {k i : Nat} (h : ¬ (i < l.length ∧ i < k)) (hq : ∀ q, q < i → (l.getD q []).length ≤ 6) : kR l k = false := by
  unfold kR
  rw [List.any_eq_false]
  intro j hj
  have := List.mem_range.1 hj
  have := hq j (by omega)
  simpa using this
def nN (m : Mly) : Bool := kR m.nx 13 || (kR m.ot 21 || (decide (12 < (m.nx.length : Int)) || decide (20 < (m.ot.length : Int))))
end Go.AV
namespace Go.Proofs.Ytdkgcbhbpdbmnaa
open Go Go.AV
open Nat renaming reduceEqDiff → E, reduceAdd → D, reduceLeDiff → J, reduceLT → S, reduceMul → M, reduceSub → O
open List renaming set_cons_zero → au, set_cons_succ → ar
set_option maxRecDepth 100000 in
theorem mX (m : Mly) : bG Try.prog 30 [m.av] (.one (.bool (nN m))) := by
 refine aR Try.func30 rfl (by kernel_rfl) (Nat.le_of_ble_eq_true rfl) rfl fun C hP hN hB => ?_
 replace hN : C.N = 51 := hN
 simp only [Y, D]
 refine aa fun K1 hK1 => ?_
 refine af hP hN rfl ?_
 iterate 2 (refine ab rfl fun K0 V => ?_; simp only [zE, op1, ev, lkp, ah, ag, ca, am, reduceCtorEq, E, D, J, S, M, O, Try.st58, Try.td4, Try.td58, Mly.av]; (repeat refine And.intro (by first | omega | assumption | exact rfl) ?_); refine V _ ?_; clear V K0; simp only [put, app, Z, ae, zE, zS, D])
 refine ai ?_
 refine hK1 _ ?_; clear hK1; refine ad [0, 1, 2] ?_; simp only [U, lkp, zE, reduceCtorEq, E, Y, D]
 refine aa fun K2 hK2 => ?_
 refine aa fun K3 hK3 => ?_
 refine af hP hN rfl ?_
 (refine ab rfl fun K0 V => ?_; simp only [zE, op1, ev, lkp, ah, ag, ev, reduceCtorEq, E, D, J, S, M, O, Try.td3, Mly.av]; refine V _ ?_; clear V K0; simp only [put, app, Z, ae, zE, zS, D])
 refine ai ?_
 refine hK3 _ ?_; clear hK3; refine ad [0, 1, 2, 3] ?_; simp only [U, lkp, zE, reduceCtorEq, E, Y, D]
 refine aN ?_
 refine bo (fun n4 s4 => ∃ (k : Nat), (k ≤ m.nx.length) ∧ (∀ q, q < k → (m.nx.getD q []).length ≤ 6) ∧ (k ≤ 13) ∧ n4 = m.nx.length - k ∧ s4 = { env := [(1, .one (.ptr 0 0 0 0)), (2, .one (.bool false)), (3, .one (.int .i64 (k : Int)))], L := [.vars 58 [.int .i64 m.inp, .int .i64 m.st, .list (.list (.int .i64)) m.nx, .list (.list (.int .i64)) m.ot]] }) ?_ ?_
 ·exact ⟨_, _, aJ [1, 2, 3], 0, Nat.zero_le _, fun q hq => by omega, by omega, rfl, rfl⟩
 ·rintro n4 s4 ⟨k, hk, hq, hk7, rfl, rfl⟩
  refine aa fun K5 hK5 => ?_
  refine aa fun K6 hK6 => ?_
  refine af hP hN rfl ?_
  iterate 5 (refine ab rfl fun K0 V => ?_; simp only [zE, op1, ev, lkp, ah, ag, ao, ay, Nat.mul_one, aw, ax, acs, Ty.dflt, zG, ak, aE, bj, ba, aU, aV, bg, Nat.div_one, aM, aX, Ty.size, aI, dite_true, aB, aD, aC, aq, az, aP, reduceCtorEq, E, D, J, S, M, O, Try.el22, Try.st58, Try.td2, Try.td22, Try.td3, Try.td4, Try.td58, Mly.av]; (repeat refine And.intro (by first | omega | assumption | exact rfl) ?_); (first | refine V _ ?_ | refine Or.inl (V _ ?_)); clear V K0; simp only [put, app, Z, ae, zE, zS, D])
  (refine ab rfl fun K0 V => ?_; simp only [zE, op1, ev, lkp, ah, ag, ev, reduceCtorEq, E, D, J, S, M, O, Try.td4, Mly.av]; refine V _ ?_; clear V K0; simp only [put, app, Z, ae, zE, zS, D])
  refine' aW (want := true) 2 rfl (m := 10) (by simp only [U, lkp, zE, reduceCtorEq, E, Y, D]; exact rfl) (by kernel_rfl) rfl rfl rfl rfl rfl (fun hg7 => ?a7) ?b7 ?c7
  case a7 =>
   have hq7 := hg7; (try simp only [zB, reduceCtorEq] at hg7); simp only [List.take_succ_cons, List.take_zero, List.cons_append, List.nil_append]
   (refine aF rfl fun K0 V => ?_; simp only [zE, op1, ev, lkp, ah, ag, ev, reduceCtorEq, E, D, J, S, M, O, Try.td3, Mly.av]; refine V _ ?_; clear V K0; simp only [put, app, Z, ae, zE, zS, D])
   (refine aF rfl fun K0 V => ?_; simp only [zE, op1, ev, lkp, ah, ag, aB, aD, aC, aq, az, aP, reduceCtorEq, E, D, J, S, M, O, Try.td3, Try.td4, Mly.av]; (repeat refine And.intro (by first | omega | assumption | exact rfl) ?_); refine V _ ?_; clear V K0; simp only [put, app, Z, ae, zE, zS, D])
   (refine ab rfl fun K0 V => ?_; simp only [zE, op1, ev, lkp, ah, ag, bt, reduceCtorEq, E, D, J, S, M, O, Try.td4, Mly.av]; refine V _ ?_; clear V K0; simp only [put, app, Z, ae, zE, zS, D])
   refine ai ?_
   refine ⟨by simp only [U, lkp, zE, reduceCtorEq, E, Y, D]; exact rfl, rfl, ?_, rfl⟩; (repeat refine aY rfl ?_); exact bz (by exact rfl) hq7
  case b7 => exact bv (by first | rfl | (simp [bU]; done) | decide)
  simp only [bh, bc]
  refine ai ?_
  refine hK6 _ ?_; clear hK6; refine ad [1, 2, 3, 13] ?_; simp only [U, lkp, zE, reduceCtorEq, E, Y, D]
  refine aA (by simp only [ev, U, lkp, zE, reduceCtorEq, E, Y, D]; exact rfl) (fun hc8 => ?_) (fun hc8 => ?_)
  ·(try simp only [zB, reduceCtorEq] at hc8)
   refine aG ?_
   refine hK5 _ ?_; clear hK5; refine ad [1, 2, 3, 13] ?_; simp only [U, lkp, zE, reduceCtorEq, E, Y, D]
   refine aa fun K9 hK9 => ?_
   refine aN ?_
   refine aa fun K10 hK10 => ?_
   refine af hP hN rfl ?_
   iterate 7 (refine ab rfl fun K0 V => ?_; simp only [zE, op1, ev, lkp, ah, ag, ao, ay, Nat.mul_one, aw, ax, acs, Ty.dflt, zG, ak, aK, Ty.size, ne_eq, not_false_eq_true, Int.natCast_one, Int.mul_one, aE, bj, ba, aU, aV, bg, Nat.div_one, aM, aX, aI, dite_true, aB, aD, aC, aq, az, aP, reduceCtorEq, E, D, J, S, M, O, Try.el22, Try.el26, Try.st58, Try.td2, Try.td22, Try.td26, Try.td3, Try.td4, Try.td58, Mly.av]; (repeat refine And.intro (by first | omega | assumption | exact rfl) ?_); (first | refine V _ ?_ | refine Or.inl (V _ ?_)); clear V K0; simp only [put, app, Z, ae, zE, zS, D])
   refine ai ?_
   refine hK10 _ ?_; clear hK10; refine ad [1, 2, 3, 13, 22] ?_; simp only [U, lkp, zE, reduceCtorEq, E, Y, D]
   refine aA (by simp only [ev, U, lkp, zE, reduceCtorEq, E, Y, D]; exact rfl) (fun hc11 => ?_) (fun hc11 => ?_)
   ·(try simp only [zB, reduceCtorEq] at hc11)
    refine aa fun K12 hK12 => ?_
    refine af hP hN rfl ?_
    (refine ab rfl fun K0 V => ?_; simp only [zE, op1, ev, lkp, ah, ag, ev, reduceCtorEq, E, D, J, S, M, O, Try.td4, Mly.av]; refine V _ ?_; clear V K0; simp only [put, app, Z, ae, zE, zS, D])
    refine ai ?_
    refine hK12 _ ?_; clear hK12; refine ad [1, 2, 3, 13, 22] ?_; simp only [U, lkp, zE, reduceCtorEq, E, Y, D]
    refine aH ?_
    refine ⟨by first | exact .inl rfl | exact .inr rfl, _, rfl, ?_⟩; simp only [fzV, fz1, fzC, List.map_cons, List.map_nil, U, lkp, zE, reduceCtorEq, E, Y, D, Mly.av]
    refine VLE.of_eq ?_
    refine congrArg (fun b => AV.one (AC.bool b)) ?_
    symm
    unfold nN
    first
    | (rw [hA1, jg (i := j) (by omega) hqj, Bool.false_or, Bool.false_or]; done)
    | (rw [hA1, gx (i := j) (by omega) (by omega) (by omega)]; rfl)
    | (rw [gx (l := m.nx) (i := k) (by omega) (by omega) (by omega)]; rfl)
   ·(try simp only [zB, reduceCtorEq] at hc11)
    refine aG ?_
    refine hK9 _ ?_; clear hK9; refine ad [1, 2, 3, 13, 22] ?_; simp only [U, lkp, zE, reduceCtorEq, E, Y, D]
    refine af hP hN rfl ?_
    iterate 3 (refine ab rfl fun K0 V => ?_; simp only [zE, op1, ev, lkp, ah, ag, aB, aD, aC, aq, az, aP, reduceCtorEq, E, D, J, S, M, O, Try.td3, Mly.av]; (repeat refine And.intro (by first | omega | assumption | exact rfl) ?_); refine V _ ?_; clear V K0; simp only [put, app, Z, ae, zE, zS, D])
    refine ai ?_
    refine ⟨_, _, ?_, aJ [1, 2, 3], k + 1, by omega, fun q hq2 => ?_, by omega, rfl, rfl⟩
    · omega
    · by_cases e : q = k
      · rw [e]; omega
      · exact hq q (by omega)
  ·(try simp only [zB, reduceCtorEq] at hc8)
   refine bm ?_
   refine hK2 _ ?_; clear hK2; refine ad [1, 2, 3, 13] ?_; simp only [U, lkp, zE, reduceCtorEq, E, Y, D]
   refine aa fun K13 hK13 => ?_
   refine aa fun K14 hK14 => ?_
   refine af hP hN rfl ?_
   (refine ab rfl fun K0 V => ?_; simp only [zE, op1, ev, lkp, ah, ag, ev, reduceCtorEq, E, D, J, S, M, O, Try.td3, Mly.av]; refine V _ ?_; clear V K0; simp only [put, app, Z, ae, zE, zS, D])
   refine ai ?_
   refine hK14 _ ?_; clear hK14; refine ad [1, 2, 3, 4, 13] ?_; simp only [U, lkp, zE, reduceCtorEq, E, Y, D]
   refine aN ?_
   have hA1 : kR m.nx 13 = false := jg (i := k) (by omega) hq
   refine bo (fun n15 s15 => ∃ (j : Nat), (j ≤ m.ot.length) ∧ (∀ q, q < j → (m.ot.getD q []).length ≤ 6) ∧ (j ≤ 21) ∧ n15 = m.ot.length - j ∧ s15 = { env := [(1, .one (.ptr 0 0 0 0)), (2, .one (.bool false)), (4, .one (.int .i64 (j : Int)))], L := [.vars 58 [.int .i64 m.inp, .int .i64 m.st, .list (.list (.int .i64)) m.nx, .list (.list (.int .i64)) m.ot]] }) ?_ ?_
   ·exact ⟨_, _, aJ [1, 2, 4], 0, Nat.zero_le _, fun q hq => by omega, by omega, rfl, rfl⟩
   ·rintro n15 s15 ⟨j, hj, hqj, hj7, rfl, rfl⟩
    refine aa fun K16 hK16 => ?_
    refine aa fun K17 hK17 => ?_
    refine af hP hN rfl ?_
    iterate 5 (refine ab rfl fun K0 V => ?_; simp only [zE, op1, ev, lkp, ah, ag, ao, ay, Nat.mul_one, aw, ax, acs, Ty.dflt, zG, ak, aE, bj, ba, aU, aV, bg, Nat.div_one, aM, aX, Ty.size, aI, dite_true, aB, aD, aC, aq, az, aP, reduceCtorEq, E, D, J, S, M, O, Try.el22, Try.st58, Try.td22, Try.td3, Try.td4, Try.td58, Mly.av]; (repeat refine And.intro (by first | omega | assumption | exact rfl) ?_); (first | refine V _ ?_ | refine Or.inl (V _ ?_)); clear V K0; simp only [put, app, Z, ae, zE, zS, D])
    (refine ab rfl fun K0 V => ?_; simp only [zE, op1, ev, lkp, ah, ag, ev, reduceCtorEq, E, D, J, S, M, O, Try.td4, Mly.av]; refine V _ ?_; clear V K0; simp only [put, app, Z, ae, zE, zS, D])
    refine' aW (want := true) 2 rfl (m := 28) (by simp only [U, lkp, zE, reduceCtorEq, E, Y, D]; exact rfl) (by kernel_rfl) rfl rfl rfl rfl rfl (fun hg18 => ?a18) ?b18 ?c18
    case a18 =>
     have hq18 := hg18; (try simp only [zB, reduceCtorEq] at hg18); simp only [List.take_succ_cons, List.take_zero, List.cons_append, List.nil_append]
     (refine aF rfl fun K0 V => ?_; simp only [zE, op1, ev, lkp, ah, ag, ev, reduceCtorEq, E, D, J, S, M, O, Try.td3, Mly.av]; refine V _ ?_; clear V K0; simp only [put, app, Z, ae, zE, zS, D])
     (refine aF rfl fun K0 V => ?_; simp only [zE, op1, ev, lkp, ah, ag, aB, aD, aC, aq, az, aP, reduceCtorEq, E, D, J, S, M, O, Try.td3, Try.td4, Mly.av]; (repeat refine And.intro (by first | omega | assumption | exact rfl) ?_); refine V _ ?_; clear V K0; simp only [put, app, Z, ae, zE, zS, D])
     (refine ab rfl fun K0 V => ?_; simp only [zE, op1, ev, lkp, ah, ag, bt, reduceCtorEq, E, D, J, S, M, O, Try.td4, Mly.av]; refine V _ ?_; clear V K0; simp only [put, app, Z, ae, zE, zS, D])
     refine ai ?_
     refine ⟨by simp only [U, lkp, zE, reduceCtorEq, E, Y, D]; exact rfl, rfl, ?_, rfl⟩; (repeat refine aY rfl ?_); exact bz (by exact rfl) hq18
    case b18 => exact bv (by first | rfl | (simp [bU]; done) | decide)
    simp only [bh, bc]
    refine ai ?_
    refine hK17 _ ?_; clear hK17; refine ad [1, 2, 4, 31] ?_; simp only [U, lkp, zE, reduceCtorEq, E, Y, D]
    refine aA (by simp only [ev, U, lkp, zE, reduceCtorEq, E, Y, D]; exact rfl) (fun hc19 => ?_) (fun hc19 => ?_)
    ·(try simp only [zB, reduceCtorEq] at hc19)
     refine aG ?_
     refine hK16 _ ?_; clear hK16; refine ad [1, 2, 4, 31] ?_; simp only [U, lkp, zE, reduceCtorEq, E, Y, D]
     refine aa fun K20 hK20 => ?_
     refine aN ?_
     refine aa fun K21 hK21 => ?_
     refine af hP hN rfl ?_
     iterate 7 (refine ab rfl fun K0 V => ?_; simp only [zE, op1, ev, lkp, ah, ag, ao, ay, Nat.mul_one, aw, ax, acs, Ty.dflt, zG, ak, aK, Ty.size, ne_eq, not_false_eq_true, Int.natCast_one, Int.mul_one, aE, bj, ba, aU, aV, bg, Nat.div_one, aM, aX, aI, dite_true, aB, aD, aC, aq, az, aP, reduceCtorEq, E, D, J, S, M, O, Try.el22, Try.el26, Try.st58, Try.td22, Try.td26, Try.td3, Try.td4, Try.td58, Mly.av]; (repeat refine And.intro (by first | omega | assumption | exact rfl) ?_); (first | refine V _ ?_ | refine Or.inl (V _ ?_)); clear V K0; simp only [put, app, Z, ae, zE, zS, D])
     refine ai ?_
     refine hK21 _ ?_; clear hK21; refine ad [1, 2, 4, 31, 40] ?_; simp only [U, lkp, zE, reduceCtorEq, E, Y, D]
     refine aA (by simp only [ev, U, lkp, zE, reduceCtorEq, E, Y, D]; exact rfl) (fun hc22 => ?_) (fun hc22 => ?_)
     ·(try simp only [zB, reduceCtorEq] at hc22)
      refine aa fun K23 hK23 => ?_
      refine af hP hN rfl ?_
      (refine ab rfl fun K0 V => ?_; simp only [zE, op1, ev, lkp, ah, ag, ev, reduceCtorEq, E, D, J, S, M, O, Try.td4, Mly.av]; refine V _ ?_; clear V K0; simp only [put, app, Z, ae, zE, zS, D])
      refine ai ?_
      refine hK23 _ ?_; clear hK23; refine ad [1, 2, 4, 31, 40] ?_; simp only [U, lkp, zE, reduceCtorEq, E, Y, D]
      refine aH ?_
      refine ⟨by first | exact .inl rfl | exact .inr rfl, _, rfl, ?_⟩; simp only [fzV, fz1, fzC, List.map_cons, List.map_nil, U, lkp, zE, reduceCtorEq, E, Y, D, Mly.av]
      refine VLE.of_eq ?_
      refine congrArg (fun b => AV.one (AC.bool b)) ?_
      symm
      unfold nN
      first
      | (rw [hA1, jg (i := j) (by omega) hqj, Bool.false_or, Bool.false_or]; done)
      | (rw [hA1, gx (i := j) (by omega) (by omega) (by omega)]; rfl)
      | (rw [gx (l := m.nx) (i := k) (by omega) (by omega) (by omega)]; rfl)
     ·(try simp only [zB, reduceCtorEq] at hc22)
      refine aG ?_
      refine hK20 _ ?_; clear hK20; refine ad [1, 2, 4, 31, 40] ?_; simp only [U, lkp, zE, reduceCtorEq, E, Y, D]
      refine af hP hN rfl ?_
      iterate 3 (refine ab rfl fun K0 V => ?_; simp only [zE, op1, ev, lkp, ah, ag, aB, aD, aC, aq, az, aP, reduceCtorEq, E, D, J, S, M, O, Try.td3, Mly.av]; (repeat refine And.intro (by first | omega | assumption | exact rfl) ?_); refine V _ ?_; clear V K0; simp only [put, app, Z, ae, zE, zS, D])
      refine ai ?_
      refine ⟨_, _, ?_, aJ [1, 2, 4], j + 1, by omega, fun q hq2 => ?_, by omega, rfl, rfl⟩
      · omega
      · by_cases e : q = j
        · rw [e]; omega
        · exact hqj q (by omega)
    ·(try simp only [zB, reduceCtorEq] at hc19)
     refine bm ?_
     refine hK13 _ ?_; clear hK13; refine ad [1, 2, 4, 31] ?_; simp only [U, lkp, zE, reduceCtorEq, E, Y, D]
     refine aa fun K24 hK24 => ?_
     refine af hP hN rfl ?_
     iterate 4 (refine ab rfl fun K0 V => ?_; simp only [zE, op1, ev, lkp, ah, ag, ao, ay, Nat.mul_one, aw, ax, acs, Ty.dflt, zG, ak, aE, bj, ba, aU, aV, bg, Nat.div_one, aM, aX, Ty.size, aI, dite_true, aB, aD, aC, aq, az, aP, reduceCtorEq, E, D, J, S, M, O, Try.el22, Try.st58, Try.td2, Try.td22, Try.td3, Try.td4, Try.td58, Mly.av]; (repeat refine And.intro (by first | omega | assumption | exact rfl) ?_); (first | refine V _ ?_ | refine Or.inl (V _ ?_)); clear V K0; simp only [put, app, Z, ae, zE, zS, D])
     (refine ab rfl fun K0 V => ?_; simp only [zE, op1, ev, lkp, ah, ag, ev, reduceCtorEq, E, D, J, S, M, O, Try.td4, Mly.av]; refine V _ ?_; clear V K0; simp only [put, app, Z, ae, zE, zS, D])
     refine' aW (want := false) 4 rfl (m := 45) (by simp only [U, lkp, zE, reduceCtorEq, E, Y, D]; exact rfl) (by kernel_rfl) rfl rfl rfl rfl rfl (fun hg25 => ?a25) ?b25 ?c25
     case a25 =>
      have hq25 := hg25; (try simp only [zB, reduceCtorEq] at hg25); simp only [List.take_succ_cons, List.take_zero, List.cons_append, List.nil_append]
      (refine aF rfl fun K0 V => ?_; simp only [zE, op1, ev, lkp, ah, ag, ao, reduceCtorEq, E, D, J, S, M, O, Try.st58, Try.td3, Try.td58, Mly.av]; (repeat refine And.intro (by first | omega | assumption | exact rfl) ?_); refine V _ ?_; clear V K0; simp only [put, app, Z, ae, zE, zS, D])
      (refine aF rfl fun K0 V => ?_; simp only [zE, op1, ev, lkp, ah, ag, ay, Nat.mul_one, aw, ax, acs, Ty.dflt, zG, ak, reduceCtorEq, E, D, J, S, M, O, Try.el22, Try.td22, Mly.av]; (repeat refine And.intro (by first | omega | assumption | exact rfl) ?_); refine V _ ?_; clear V K0; simp only [put, app, Z, ae, zE, zS, D])
      (refine aF rfl fun K0 V => ?_; simp only [zE, op1, ev, lkp, ah, ag, aE, bj, ba, aU, aV, bg, Nat.div_one, aM, aX, Ty.size, aI, dite_true, reduceCtorEq, E, D, J, S, M, O, Try.el22, Try.td22, Try.td3, Mly.av]; (repeat refine And.intro (by first | omega | assumption | exact rfl) ?_); (first | refine V _ ?_ | refine Or.inl (V _ ?_)); clear V K0; simp only [put, app, Z, ae, zE, zS, D])
      (refine aF rfl fun K0 V => ?_; simp only [zE, op1, ev, lkp, ah, ag, aB, aD, aC, aq, az, aP, reduceCtorEq, E, D, J, S, M, O, Try.td3, Try.td4, Mly.av]; (repeat refine And.intro (by first | omega | assumption | exact rfl) ?_); refine V _ ?_; clear V K0; simp only [put, app, Z, ae, zE, zS, D])
      (refine ab rfl fun K0 V => ?_; simp only [zE, op1, ev, lkp, ah, ag, bt, reduceCtorEq, E, D, J, S, M, O, Try.td4, Mly.av]; refine V _ ?_; clear V K0; simp only [put, app, Z, ae, zE, zS, D])
      refine ai ?_
      refine ⟨by simp only [U, lkp, zE, reduceCtorEq, E, Y, D]; exact rfl, rfl, ?_, rfl⟩; (repeat refine aY rfl ?_); exact bz (by exact rfl) hq25
     case b25 => exact bv (by first | rfl | (simp [bU]; done) | decide)
     simp only [bh, bc]
     (refine ab rfl fun K0 V => ?_; simp only [zE, op1, ev, lkp, ah, ag, ev, reduceCtorEq, E, D, J, S, M, O, Try.td4, Mly.av]; refine V _ ?_; clear V K0; simp only [put, app, Z, ae, zE, zS, D])
     refine ai ?_
     refine hK24 _ ?_; clear hK24; refine ad [1, 2, 4, 31] ?_; simp only [U, lkp, zE, reduceCtorEq, E, Y, D]
     refine aH ?_
     refine ⟨by first | exact .inl rfl | exact .inr rfl, _, rfl, ?_⟩; simp only [fzV, fz1, fzC, List.map_cons, List.map_nil, U, lkp, zE, reduceCtorEq, E, Y, D, Mly.av]
     refine VLE.of_eq ?_
     refine congrArg (fun b => AV.one (AC.bool b)) ?_
     symm
     unfold nN
     first
     | (rw [hA1, jg (i := j) (by omega) hqj, Bool.false_or, Bool.false_or]; done)
     | (rw [hA1, gx (i := j) (by omega) (by omega) (by omega)]; rfl)
     | (rw [gx (l := m.nx) (i := k) (by omega) (by omega) (by omega)]; rfl)
end Go.Proofs.Ytdkgcbhbpdbmnaa
namespace Go.Proofs.Ytdkgcbhbpdbmnaa
open Go Go.AV
open Nat renaming reduceEqDiff → E, reduceAdd → D, reduceLeDiff → J, reduceLT → S, reduceMul → M, reduceSub → O
open List renaming set_cons_zero → au, set_cons_succ → ar
set_option maxRecDepth 100000 in
theorem qY (xs ys : List Int) : bG Try.prog 86 [.one (.list (.int .i64) xs), .one (.list (.int .i64) ys)] (.one (.bool (decide (xs = ys)))) := by
 refine aR Try.func86 rfl (by kernel_rfl) (Nat.le_of_ble_eq_true rfl) rfl fun C hP hN hB => ?_
 replace hN : C.N = 26 := hN
 simp only [Y, D]
 refine dA 0 rfl fun hf0 => ?_; simp only [lkp, if_true, if_false, reduceCtorEq, E, eq_self, Nat.one_ne_zero, Nat.zero_ne_one, fW, fH, fL, Fit, and_true, implies_true, true_and] at hf0
 refine aa fun K1 hK1 => ?_
 refine af hP hN rfl ?_
 (refine ab rfl fun K0 V => ?_; simp only [zE, op1, ev, lkp, ah, ag, ev, reduceCtorEq, E, D, J, S, M, O, Try.td4]; refine V _ ?_; clear V K0; simp only [put, app, Z, ae, zE, zS, D])
 refine ai ?_
 refine hK1 _ ?_; clear hK1; refine ad [0, 1, 4] ?_; simp only [U, lkp, zE, reduceCtorEq, E, Y, D]
 refine aa fun K2 hK2 => ?_
 refine aa fun K3 hK3 => ?_
 refine af hP hN rfl ?_
 iterate 5 (refine ab rfl fun K0 V => ?_; simp only [zE, op1, ev, lkp, ah, ag, aE, bj, ba, aU, aV, bg, Nat.div_one, aM, aX, Ty.size, aI, dite_true, aB, aD, aC, aq, az, aP, reduceCtorEq, E, D, J, S, M, O, Try.el26, Try.td26, Try.td3, Try.td4]; (repeat refine And.intro (by first | omega | assumption | exact rfl) ?_); (first | refine V _ ?_ | refine Or.inl (V _ ?_)); clear V K0; simp only [put, app, Z, ae, zE, zS, D])
 refine ai ?_
 refine hK3 _ ?_; clear hK3; refine ad [0, 1, 4, 10] ?_; simp only [U, lkp, zE, reduceCtorEq, E, Y, D]
 refine aA (by simp only [ev, U, lkp, zE, reduceCtorEq, E, Y, D]; exact rfl) (fun hc4 => ?_) (fun hc4 => ?_)
 ·(try simp only [zB, reduceCtorEq] at hc4)
  refine aa fun K5 hK5 => ?_
  refine af hP hN rfl ?_
  (refine ab rfl fun K0 V => ?_; simp only [zE, op1, ev, lkp, ah, ag, ev, reduceCtorEq, E, D, J, S, M, O, Try.td4]; refine V _ ?_; clear V K0; simp only [put, app, Z, ae, zE, zS, D])
  refine ai ?_
  refine hK5 _ ?_; clear hK5; refine ad [0, 1, 4, 10] ?_; simp only [U, lkp, zE, reduceCtorEq, E, Y, D]
  refine aH ?_
  refine ⟨by first | exact .inl rfl | exact .inr rfl, _, rfl, ?_⟩; simp only [fzV, fz1, fzC, List.map_cons, List.map_nil, U, lkp, zE, reduceCtorEq, E, Y, D]
  refine VLE.of_eq ?_
  first
  | (refine cT ?_; rintro rfl; first | exact absurd rfl ‹¬ _› | omega)
  | (refine d6 ?_; have hk1 : k = xs.length := by omega
     have hk2 : k = ys.length := by omega
     rw [hk1, List.take_length, ← hk1, hk2, List.take_length] at hT; exact hT)
 ·(try simp only [zB, reduceCtorEq] at hc4)
  refine aG ?_
  refine hK2 _ ?_; clear hK2; refine ad [0, 1, 4, 10] ?_; simp only [U, lkp, zE, reduceCtorEq, E, Y, D]
  refine aa fun K6 hK6 => ?_
  refine aa fun K7 hK7 => ?_
  refine af hP hN rfl ?_
  (refine ab rfl fun K0 V => ?_; simp only [zE, op1, ev, lkp, ah, ag, ev, reduceCtorEq, E, D, J, S, M, O, Try.td3]; refine V _ ?_; clear V K0; simp only [put, app, Z, ae, zE, zS, D])
  refine ai ?_
  refine hK7 _ ?_; clear hK7; refine ad [0, 1, 4, 5, 10] ?_; simp only [U, lkp, zE, reduceCtorEq, E, Y, D]
  refine aN ?_
  refine bo (fun n8 s8 => ∃ (k : Nat), (k ≤ xs.length) ∧ (xs.take k = ys.take k) ∧ n8 = xs.length - k ∧ s8 = { env := [(0, .one (.list (.int .i64) xs)), (1, .one (.list (.int .i64) ys)), (5, .one (.int .i64 (k : Int)))], L := [] }) ?_ ?_
  ·exact ⟨_, _, aJ [0, 1, 5], 0, Nat.zero_le _, rfl, rfl, rfl⟩
  ·rintro n8 s8 ⟨k, hk, hT, rfl, rfl⟩
   refine aa fun K9 hK9 => ?_
   refine aa fun K10 hK10 => ?_
   refine af hP hN rfl ?_
   iterate 4 (refine ab rfl fun K0 V => ?_; simp only [zE, op1, ev, lkp, ah, ag, aE, bj, ba, aU, aV, bg, Nat.div_one, aM, aX, Ty.size, aI, dite_true, aB, aD, aC, aq, az, aP, reduceCtorEq, E, D, J, S, M, O, Try.el26, Try.td26, Try.td3, Try.td4]; (repeat refine And.intro (by first | omega | assumption | exact rfl) ?_); (first | refine V _ ?_ | refine Or.inl (V _ ?_)); clear V K0; simp only [put, app, Z, ae, zE, zS, D])
   refine ai ?_
   refine hK10 _ ?_; clear hK10; refine ad [0, 1, 5, 14] ?_; simp only [U, lkp, zE, reduceCtorEq, E, Y, D]
   refine aA (by simp only [ev, U, lkp, zE, reduceCtorEq, E, Y, D]; exact rfl) (fun hc11 => ?_) (fun hc11 => ?_)
   ·(try simp only [zB, reduceCtorEq] at hc11)
    refine aG ?_
    refine hK9 _ ?_; clear hK9; refine ad [0, 1, 5, 14] ?_; simp only [U, lkp, zE, reduceCtorEq, E, Y, D]
    refine aa fun K12 hK12 => ?_
    refine aN ?_
    refine aa fun K13 hK13 => ?_
    refine bP hP hN Try.mixed rfl ?_
    iterate 9 (refine ab rfl fun K0 V => ?_; simp only [zE, op1, ev, lkp, ah, ag, aK, zG, Ty.dflt, Ty.size, Nat.mul_one, ne_eq, not_false_eq_true, Int.natCast_one, Int.mul_one, ay, aw, ax, acs, ak, aB, aD, aC, aq, az, aP, reduceCtorEq, E, D, J, S, M, O, Try.el26, Try.td26, Try.td3, Try.td4]; (repeat refine And.intro (by first | omega | assumption | exact rfl) ?_); refine V _ ?_; clear V K0; simp only [put, app, Z, ae, zE, zS, D])
    refine ai ?_
    refine ⟨by kernel_rfl, ?_⟩
    refine hK13 _ ?_; clear hK13; refine ad [0, 1, 5, 14, 25] ?_; simp only [U, lkp, zE, reduceCtorEq, E, Y, D]
    refine aA (by simp only [ev, U, lkp, zE, reduceCtorEq, E, Y, D]; exact rfl) (fun hc14 => ?_) (fun hc14 => ?_)
    ·(try simp only [zB, reduceCtorEq] at hc14)
     refine aa fun K15 hK15 => ?_
     refine af hP hN rfl ?_
     (refine ab rfl fun K0 V => ?_; simp only [zE, op1, ev, lkp, ah, ag, ev, reduceCtorEq, E, D, J, S, M, O, Try.td4]; refine V _ ?_; clear V K0; simp only [put, app, Z, ae, zE, zS, D])
     refine ai ?_
     refine hK15 _ ?_; clear hK15; refine ad [0, 1, 4, 5, 14, 25] ?_; simp only [U, lkp, zE, reduceCtorEq, E, Y, D]
     refine aH ?_
     refine ⟨by first | exact .inl rfl | exact .inr rfl, _, rfl, ?_⟩; simp only [fzV, fz1, fzC, List.map_cons, List.map_nil, U, lkp, zE, reduceCtorEq, E, Y, D]
     refine VLE.of_eq ?_
     first
     | (refine cT ?_; rintro rfl; first | exact absurd rfl ‹¬ _› | omega)
     | (refine d6 ?_; have hk1 : k = xs.length := by omega
        have hk2 : k = ys.length := by omega
        rw [hk1, List.take_length, ← hk1, hk2, List.take_length] at hT; exact hT)
    ·(try simp only [zB, reduceCtorEq] at hc14)
     refine aG ?_
     refine hK12 _ ?_; clear hK12; refine ad [0, 1, 5, 14, 25] ?_; simp only [U, lkp, zE, reduceCtorEq, E, Y, D]
     refine af hP hN rfl ?_
     iterate 3 (refine ab rfl fun K0 V => ?_; simp only [zE, op1, ev, lkp, ah, ag, aB, aD, aC, aq, az, aP, reduceCtorEq, E, D, J, S, M, O, Try.td3]; (repeat refine And.intro (by first | omega | assumption | exact rfl) ?_); refine V _ ?_; clear V K0; simp only [put, app, Z, ae, zE, zS, D])
     refine ai ?_
     refine ⟨_, _, ?_, aJ [0, 1, 5], k + 1, by omega, eU (d := 0) hT (by omega) (by omega) ?_, rfl, rfl⟩
     · omega
     · first | assumption | omega
   ·(try simp only [zB, reduceCtorEq] at hc11)
    refine bm ?_
    refine hK6 _ ?_; clear hK6; refine ad [0, 1, 5, 14] ?_; simp only [U, lkp, zE, reduceCtorEq, E, Y, D]
    refine aa fun K16 hK16 => ?_
    refine af hP hN rfl ?_
    (refine ab rfl fun K0 V => ?_; simp only [zE, op1, ev, lkp, ah, ag, ev, reduceCtorEq, E, D, J, S, M, O, Try.td4]; refine V _ ?_; clear V K0; simp only [put, app, Z, ae, zE, zS, D])
    refine ai ?_
    refine hK16 _ ?_; clear hK16; refine ad [0, 1, 4, 5, 14] ?_; simp only [U, lkp, zE, reduceCtorEq, E, Y, D]
    refine aH ?_
    refine ⟨by first | exact .inl rfl | exact .inr rfl, _, rfl, ?_⟩; simp only [fzV, fz1, fzC, List.map_cons, List.map_nil, U, lkp, zE, reduceCtorEq, E, Y, D]
    refine VLE.of_eq ?_
    first
    | (refine cT ?_; rintro rfl; first | exact absurd rfl ‹¬ _› | omega)
    | (refine d6 ?_; have hk1 : k = xs.length := by omega
       have hk2 : k = ys.length := by omega
       rw [hk1, List.take_length, ← hk1, hk2, List.take_length] at hT; exact hT)
end Go.Proofs.Ytdkgcbhbpdbmnaa
namespace Go.Proofs.Ytdkgcbhbpdbmnaa
open Go Go.AV
open Nat renaming reduceEqDiff → E, reduceAdd → D, reduceLeDiff → J, reduceLT → S, reduceMul → M, reduceSub → O
open List renaming set_cons_zero → au, set_cons_succ → ar
set_option maxRecDepth 100000 in
theorem mO (xs ys : List (List Int)) : bG Try.prog 74 [.one (.list (.list (.int .i64)) xs), .one (.list (.list (.int .i64)) ys)] (.one (.bool (decide (xs = ys)))) := by
 refine aR Try.func74 rfl (by kernel_rfl) (Nat.le_of_ble_eq_true rfl) rfl fun C hP hN hB => ?_
 replace hN : C.N = 27 := hN
 simp only [Y, D]
 refine dA 0 rfl fun hf0 => ?_; simp only [lkp, if_true, if_false, reduceCtorEq, E, eq_self, Nat.one_ne_zero, Nat.zero_ne_one, fW, fH, fL, Fit, and_true, implies_true, true_and] at hf0
 refine aa fun K1 hK1 => ?_
 refine af hP hN rfl ?_
 (refine ab rfl fun K0 V => ?_; simp only [zE, op1, ev, lkp, ah, ag, ev, reduceCtorEq, E, D, J, S, M, O, Try.td4]; refine V _ ?_; clear V K0; simp only [put, app, Z, ae, zE, zS, D])
 refine ai ?_
 refine hK1 _ ?_; clear hK1; refine ad [0, 1, 4] ?_; simp only [U, lkp, zE, reduceCtorEq, E, Y, D]
 refine aa fun K2 hK2 => ?_
 refine aa fun K3 hK3 => ?_
 refine af hP hN rfl ?_
 iterate 5 (refine ab rfl fun K0 V => ?_; simp only [zE, op1, ev, lkp, ah, ag, aE, bj, ba, aU, aV, bg, Nat.div_one, aM, aX, Ty.size, aI, dite_true, aB, aD, aC, aq, az, aP, reduceCtorEq, E, D, J, S, M, O, Try.el22, Try.td22, Try.td3, Try.td4]; (repeat refine And.intro (by first | omega | assumption | exact rfl) ?_); (first | refine V _ ?_ | refine Or.inl (V _ ?_)); clear V K0; simp only [put, app, Z, ae, zE, zS, D])
 refine ai ?_
 refine hK3 _ ?_; clear hK3; refine ad [0, 1, 4, 10] ?_; simp only [U, lkp, zE, reduceCtorEq, E, Y, D]
 refine aA (by simp only [ev, U, lkp, zE, reduceCtorEq, E, Y, D]; exact rfl) (fun hc4 => ?_) (fun hc4 => ?_)
 ·(try simp only [zB, reduceCtorEq] at hc4)
  refine aa fun K5 hK5 => ?_
  refine af hP hN rfl ?_
  (refine ab rfl fun K0 V => ?_; simp only [zE, op1, ev, lkp, ah, ag, ev, reduceCtorEq, E, D, J, S, M, O, Try.td4]; refine V _ ?_; clear V K0; simp only [put, app, Z, ae, zE, zS, D])
  refine ai ?_
  refine hK5 _ ?_; clear hK5; refine ad [0, 1, 4, 10] ?_; simp only [U, lkp, zE, reduceCtorEq, E, Y, D]
  refine aH ?_
  refine ⟨by first | exact .inl rfl | exact .inr rfl, _, rfl, ?_⟩; simp only [fzV, fz1, fzC, List.map_cons, List.map_nil, U, lkp, zE, reduceCtorEq, E, Y, D]
  refine VLE.of_eq ?_
  first
  | (refine cT ?_; rintro rfl; first | exact absurd rfl ‹¬ _› | omega)
  | (refine d6 ?_; have hk1 : k = xs.length := by omega
     have hk2 : k = ys.length := by omega
     rw [hk1, List.take_length, ← hk1, hk2, List.take_length] at hT; exact hT)
 ·(try simp only [zB, reduceCtorEq] at hc4)
  refine aG ?_
  refine hK2 _ ?_; clear hK2; refine ad [0, 1, 4, 10] ?_; simp only [U, lkp, zE, reduceCtorEq, E, Y, D]
  refine aa fun K6 hK6 => ?_
  refine aa fun K7 hK7 => ?_
  refine af hP hN rfl ?_
  (refine ab rfl fun K0 V => ?_; simp only [zE, op1, ev, lkp, ah, ag, ev, reduceCtorEq, E, D, J, S, M, O, Try.td3]; refine V _ ?_; clear V K0; simp only [put, app, Z, ae, zE, zS, D])
  refine ai ?_
  refine hK7 _ ?_; clear hK7; refine ad [0, 1, 4, 5, 10] ?_; simp only [U, lkp, zE, reduceCtorEq, E, Y, D]
  refine aN ?_
  refine bo (fun n8 s8 => ∃ (k : Nat), (k ≤ xs.length) ∧ (xs.take k = ys.take k) ∧ n8 = xs.length - k ∧ s8 = { env := [(0, .one (.list (.list (.int .i64)) xs)), (1, .one (.list (.list (.int .i64)) ys)), (5, .one (.int .i64 (k : Int)))], L := [] }) ?_ ?_
  ·exact ⟨_, _, aJ [0, 1, 5], 0, Nat.zero_le _, rfl, rfl, rfl⟩
  ·rintro n8 s8 ⟨k, hk, hT, rfl, rfl⟩
   refine aa fun K9 hK9 => ?_
   refine aa fun K10 hK10 => ?_
   refine af hP hN rfl ?_
   iterate 4 (refine ab rfl fun K0 V => ?_; simp only [zE, op1, ev, lkp, ah, ag, aE, bj, ba, aU, aV, bg, Nat.div_one, aM, aX, Ty.size, aI, dite_true, aB, aD, aC, aq, az, aP, reduceCtorEq, E, D, J, S, M, O, Try.el22, Try.td22, Try.td3, Try.td4]; (repeat refine And.intro (by first | omega | assumption | exact rfl) ?_); (first | refine V _ ?_ | refine Or.inl (V _ ?_)); clear V K0; simp only [put, app, Z, ae, zE, zS, D])
   refine ai ?_
   refine hK10 _ ?_; clear hK10; refine ad [0, 1, 5, 14] ?_; simp only [U, lkp, zE, reduceCtorEq, E, Y, D]
   refine aA (by simp only [ev, U, lkp, zE, reduceCtorEq, E, Y, D]; exact rfl) (fun hc11 => ?_) (fun hc11 => ?_)
   ·(try simp only [zB, reduceCtorEq] at hc11)
    refine aG ?_
    refine hK9 _ ?_; clear hK9; refine ad [0, 1, 5, 14] ?_; simp only [U, lkp, zE, reduceCtorEq, E, Y, D]
    refine aa fun K12 hK12 => ?_
    refine aN ?_
    refine aa fun K13 hK13 => ?_
    refine bP hP hN Try.mixed rfl ?_
    iterate 8 (refine ab rfl fun K0 V => ?_; simp only [zE, op1, ev, lkp, ah, ag, aK, zG, Ty.dflt, Ty.size, Nat.mul_one, ne_eq, not_false_eq_true, Int.natCast_one, Int.mul_one, ay, aw, ax, acs, ak, reduceCtorEq, E, D, J, S, M, O, Try.el22, Try.el26, Try.td22, Try.td26, Try.td3]; (repeat refine And.intro (by first | omega | assumption | exact rfl) ?_); refine V _ ?_; clear V K0; simp only [put, app, Z, ae, zE, zS, D])
    refine ab rfl fun K0 V => ?_
    refine aT (h := aL (qY (xs.getD k []) (ys.getD k []))) rfl rfl (by first | exact rfl | (simp only [ev, U, lkp, zE, reduceCtorEq, E, Y, D]; exact rfl)) (by simp only [zE, zG, op1, ev, lkp, ah, ag, am, acs, be, mv1, mvC, Ty.dflt, reduceCtorEq, E, D, J, S, M, O]) ?_
    refine V _ ?_; clear V K0; simp only [put, app, Z, ae, zE, zS, D]
    (refine ab rfl fun K0 V => ?_; simp only [zE, op1, ev, lkp, ah, ag, gd, reduceCtorEq, E, D, J, S, M, O, Try.td4]; (repeat refine And.intro (by first | omega | assumption | exact rfl) ?_); refine V _ ?_; clear V K0; simp only [put, app, Z, ae, zE, zS, D])
    refine ai ?_
    refine ⟨by kernel_rfl, ?_⟩
    refine hK13 _ ?_; clear hK13; refine ad [0, 1, 5, 14, 26] ?_; simp only [U, lkp, zE, reduceCtorEq, E, Y, D]
    refine aA (by simp only [ev, U, lkp, zE, reduceCtorEq, E, Y, D]; exact rfl) (fun hc14 => ?_) (fun hc14 => ?_)
    ·(try simp only [zB, reduceCtorEq] at hc14)
     refine aa fun K15 hK15 => ?_
     refine af hP hN rfl ?_
     (refine ab rfl fun K0 V => ?_; simp only [zE, op1, ev, lkp, ah, ag, ev, reduceCtorEq, E, D, J, S, M, O, Try.td4]; refine V _ ?_; clear V K0; simp only [put, app, Z, ae, zE, zS, D])
     refine ai ?_
     refine hK15 _ ?_; clear hK15; refine ad [0, 1, 4, 5, 14, 26] ?_; simp only [U, lkp, zE, reduceCtorEq, E, Y, D]
     refine aH ?_
     refine ⟨by first | exact .inl rfl | exact .inr rfl, _, rfl, ?_⟩; simp only [fzV, fz1, fzC, List.map_cons, List.map_nil, U, lkp, zE, reduceCtorEq, E, Y, D]
     refine VLE.of_eq ?_
     first
     | (refine cT ?_; rintro rfl; first | exact absurd rfl ‹¬ _› | omega)
     | (refine d6 ?_; have hk1 : k = xs.length := by omega
        have hk2 : k = ys.length := by omega
        rw [hk1, List.take_length, ← hk1, hk2, List.take_length] at hT; exact hT)
    ·(try simp only [zB, reduceCtorEq] at hc14)
     refine aG ?_
     refine hK12 _ ?_; clear hK12; refine ad [0, 1, 5, 14, 26] ?_; simp only [U, lkp, zE, reduceCtorEq, E, Y, D]
     refine af hP hN rfl ?_
     iterate 3 (refine ab rfl fun K0 V => ?_; simp only [zE, op1, ev, lkp, ah, ag, aB, aD, aC, aq, az, aP, reduceCtorEq, E, D, J, S, M, O, Try.td3]; (repeat refine And.intro (by first | omega | assumption | exact rfl) ?_); refine V _ ?_; clear V K0; simp only [put, app, Z, ae, zE, zS, D])
     refine ai ?_
     refine ⟨_, _, ?_, aJ [0, 1, 5], k + 1, by omega, eU (d := []) hT (by omega) (by omega) ?_, rfl, rfl⟩
     · omega
     · first | assumption | omega
   ·(try simp only [zB, reduceCtorEq] at hc11)
    refine bm ?_
    refine hK6 _ ?_; clear hK6; refine ad [0, 1, 5, 14] ?_; simp only [U, lkp, zE, reduceCtorEq, E, Y, D]
    refine aa fun K16 hK16 => ?_
    refine af hP hN rfl ?_
    (refine ab rfl fun K0 V => ?_; simp only [zE, op1, ev, lkp, ah, ag, ev, reduceCtorEq, E, D, J, S, M, O, Try.td4]; refine V _ ?_; clear V K0; simp only [put, app, Z, ae, zE, zS, D])
    refine ai ?_
    refine hK16 _ ?_; clear hK16; refine ad [0, 1, 4, 5, 14] ?_; simp only [U, lkp, zE, reduceCtorEq, E, Y, D]
    refine aH ?_
    refine ⟨by first | exact .inl rfl | exact .inr rfl, _, rfl, ?_⟩; simp only [fzV, fz1, fzC, List.map_cons, List.map_nil, U, lkp, zE, reduceCtorEq, E, Y, D]
    refine VLE.of_eq ?_
    first
    | (refine cT ?_; rintro rfl; first | exact absurd rfl ‹¬ _› | omega)
    | (refine d6 ?_; have hk1 : k = xs.length := by omega
       have hk2 : k = ys.length := by omega
       rw [hk1, List.take_length, ← hk1, hk2, List.take_length] at hT; exact hT)
end Go.Proofs.Ytdkgcbhbpdbmnaa
namespace Go.Proofs.Ytdkgcbhbpdbmnaa
open Go Go.AV
open Nat renaming reduceEqDiff → E, reduceAdd → D, reduceLeDiff → J, reduceLT → S, reduceMul → M, reduceSub → O
open List renaming set_cons_zero → au, set_cons_succ → ar
set_option maxRecDepth 100000 in
theorem pT (m n : Mly) : bG Try.prog 35 [m.av, n.av] (.one (.bool (jX m n))) := by
 refine aR Try.func35 rfl (by kernel_rfl) (Nat.le_of_ble_eq_true rfl) rfl fun C hP hN hB => ?_
 replace hN : C.N = 31 := hN
 simp only [Y, D]
 refine aa fun K1 hK1 => ?_
 refine af hP hN rfl ?_
 iterate 3 (refine ab rfl fun K0 V => ?_; simp only [zE, op1, ev, lkp, ah, ag, ca, am, reduceCtorEq, E, D, J, S, M, O, Try.st58, Try.td4, Try.td58, Mly.av]; (repeat refine And.intro (by first | omega | assumption | exact rfl) ?_); refine V _ ?_; clear V K0; simp only [put, app, Z, ae, zE, zS, D])
 refine ai ?_
 refine hK1 _ ?_; clear hK1; refine ad [0, 1, 2, 3, 4] ?_; simp only [U, lkp, zE, reduceCtorEq, E, Y, D]
 refine aa fun K2 hK2 => ?_
 refine af hP hN rfl ?_
 iterate 5 (refine ab rfl fun K0 V => ?_; simp only [zE, op1, ev, lkp, ah, ag, ao, ay, Nat.mul_one, aw, ax, acs, Ty.dflt, zG, ak, aB, aD, aC, aq, az, aP, reduceCtorEq, E, D, J, S, M, O, Try.st58, Try.td3, Try.td4, Try.td58, Mly.av]; (repeat refine And.intro (by first | omega | assumption | exact rfl) ?_); refine V _ ?_; clear V K0; simp only [put, app, Z, ae, zE, zS, D])
 (refine ab rfl fun K0 V => ?_; simp only [zE, op1, ev, lkp, ah, ag, ev, reduceCtorEq, E, D, J, S, M, O, Try.td4, Mly.av]; refine V _ ?_; clear V K0; simp only [put, app, Z, ae, zE, zS, D])
 refine' aW (want := true) 5 rfl (m := 10) (by simp only [U, lkp, zE, reduceCtorEq, E, Y, D]; exact rfl) (by kernel_rfl) rfl rfl rfl rfl rfl (fun hg3 => ?a3) ?b3 ?c3
 case a3 =>
  have hq3 := hg3; (try simp only [zB, reduceCtorEq] at hg3); simp only [List.take_succ_cons, List.take_zero, List.cons_append, List.nil_append]
  (refine aF rfl fun K0 V => ?_; simp only [zE, op1, ev, lkp, ah, ag, ao, reduceCtorEq, E, D, J, S, M, O, Try.st58, Try.td1, Try.td58, Mly.av]; (repeat refine And.intro (by first | omega | assumption | exact rfl) ?_); refine V _ ?_; clear V K0; simp only [put, app, Z, ae, zE, zS, D])
  (refine aF rfl fun K0 V => ?_; simp only [zE, op1, ev, lkp, ah, ag, ay, Nat.mul_one, aw, ax, acs, Ty.dflt, zG, ak, reduceCtorEq, E, D, J, S, M, O, Try.td3, Mly.av]; (repeat refine And.intro (by first | omega | assumption | exact rfl) ?_); refine V _ ?_; clear V K0; simp only [put, app, Z, ae, zE, zS, D])
  (refine aF rfl fun K0 V => ?_; simp only [zE, op1, ev, lkp, ah, ag, ao, reduceCtorEq, E, D, J, S, M, O, Try.st58, Try.td1, Try.td58, Mly.av]; (repeat refine And.intro (by first | omega | assumption | exact rfl) ?_); refine V _ ?_; clear V K0; simp only [put, app, Z, ae, zE, zS, D])
  (refine aF rfl fun K0 V => ?_; simp only [zE, op1, ev, lkp, ah, ag, ay, Nat.mul_one, aw, ax, acs, Ty.dflt, zG, ak, reduceCtorEq, E, D, J, S, M, O, Try.td3, Mly.av]; (repeat refine And.intro (by first | omega | assumption | exact rfl) ?_); refine V _ ?_; clear V K0; simp only [put, app, Z, ae, zE, zS, D])
  (refine aF rfl fun K0 V => ?_; simp only [zE, op1, ev, lkp, ah, ag, aB, aD, aC, aq, az, aP, reduceCtorEq, E, D, J, S, M, O, Try.td3, Try.td4, Mly.av]; (repeat refine And.intro (by first | omega | assumption | exact rfl) ?_); refine V _ ?_; clear V K0; simp only [put, app, Z, ae, zE, zS, D])
  (refine ab rfl fun K0 V => ?_; simp only [zE, op1, ev, lkp, ah, ag, bt, reduceCtorEq, E, D, J, S, M, O, Try.td4, Mly.av]; refine V _ ?_; clear V K0; simp only [put, app, Z, ae, zE, zS, D])
  refine ai ?_
  refine ⟨by simp only [U, lkp, zE, reduceCtorEq, E, Y, D]; exact rfl, rfl, ?_, rfl⟩; (repeat refine aY rfl ?_); exact bz (by exact rfl) hq3
 case b3 => exact bv (by first | rfl | (simp [bU]; done) | decide)
 simp only [bh, bc]
 (refine ab rfl fun K0 V => ?_; simp only [zE, op1, ev, lkp, ah, ag, ev, reduceCtorEq, E, D, J, S, M, O, Try.td4, Mly.av]; refine V _ ?_; clear V K0; simp only [put, app, Z, ae, zE, zS, D])
 refine' aW (want := true) 5 rfl (m := 17) (by simp only [U, lkp, zE, reduceCtorEq, E, Y, D]; exact rfl) (by kernel_rfl) rfl rfl rfl rfl rfl (fun hg4 => ?a4) ?b4 ?c4
 case a4 =>
  have hq4 := hg4; (try simp only [zB, reduceCtorEq] at hg4); simp only [List.take_succ_cons, List.take_zero, List.cons_append, List.nil_append]
  (refine aF rfl fun K0 V => ?_; simp only [zE, op1, ev, lkp, ah, ag, ao, reduceCtorEq, E, D, J, S, M, O, Try.st58, Try.td2, Try.td58, Mly.av]; (repeat refine And.intro (by first | omega | assumption | exact rfl) ?_); refine V _ ?_; clear V K0; simp only [put, app, Z, ae, zE, zS, D])
  (refine aF rfl fun K0 V => ?_; simp only [zE, op1, ev, lkp, ah, ag, ay, Nat.mul_one, aw, ax, acs, Ty.dflt, zG, ak, reduceCtorEq, E, D, J, S, M, O, Try.el22, Try.td22, Mly.av]; (repeat refine And.intro (by first | omega | assumption | exact rfl) ?_); refine V _ ?_; clear V K0; simp only [put, app, Z, ae, zE, zS, D])
  (refine aF rfl fun K0 V => ?_; simp only [zE, op1, ev, lkp, ah, ag, ao, reduceCtorEq, E, D, J, S, M, O, Try.st58, Try.td2, Try.td58, Mly.av]; (repeat refine And.intro (by first | omega | assumption | exact rfl) ?_); refine V _ ?_; clear V K0; simp only [put, app, Z, ae, zE, zS, D])
  (refine aF rfl fun K0 V => ?_; simp only [zE, op1, ev, lkp, ah, ag, ay, Nat.mul_one, aw, ax, acs, Ty.dflt, zG, ak, reduceCtorEq, E, D, J, S, M, O, Try.el22, Try.td22, Mly.av]; (repeat refine And.intro (by first | omega | assumption | exact rfl) ?_); refine V _ ?_; clear V K0; simp only [put, app, Z, ae, zE, zS, D])
  refine aF rfl fun K0 V => ?_
  refine aT (h := aL (mO m.nx n.nx)) rfl rfl (by first | exact rfl | (simp only [ev, U, lkp, zE, reduceCtorEq, E, Y, D]; exact rfl)) (by simp only [zE, zG, op1, ev, lkp, ah, ag, am, acs, be, mv1, mvC, Ty.dflt, reduceCtorEq, E, D, J, S, M, O, Mly.av]) ?_
  refine V _ ?_; clear V K0; simp only [put, app, Z, ae, zE, zS, D]
  (refine ab rfl fun K0 V => ?_; simp only [zE, op1, ev, lkp, ah, ag, bt, reduceCtorEq, E, D, J, S, M, O, Try.td4, Mly.av]; refine V _ ?_; clear V K0; simp only [put, app, Z, ae, zE, zS, D])
  refine ai ?_
  refine ⟨by simp only [U, lkp, zE, reduceCtorEq, E, Y, D]; exact rfl, rfl, ?_, rfl⟩; (repeat refine aY rfl ?_); exact bz (by exact rfl) hq4
 case b4 => exact bv (by first | rfl | (simp [bU]; done) | decide)
 simp only [bh, bc]
 (refine ab rfl fun K0 V => ?_; simp only [zE, op1, ev, lkp, ah, ag, ev, reduceCtorEq, E, D, J, S, M, O, Try.td4, Mly.av]; refine V _ ?_; clear V K0; simp only [put, app, Z, ae, zE, zS, D])
 refine' aW (want := true) 5 rfl (m := 24) (by simp only [U, lkp, zE, reduceCtorEq, E, Y, D]; exact rfl) (by kernel_rfl) rfl rfl rfl rfl rfl (fun hg5 => ?a5) ?b5 ?c5
 case a5 =>
  have hq5 := hg5; (try simp only [zB, reduceCtorEq] at hg5); simp only [List.take_succ_cons, List.take_zero, List.cons_append, List.nil_append]
  (refine aF rfl fun K0 V => ?_; simp only [zE, op1, ev, lkp, ah, ag, ao, reduceCtorEq, E, D, J, S, M, O, Try.st58, Try.td3, Try.td58, Mly.av]; (repeat refine And.intro (by first | omega | assumption | exact rfl) ?_); refine V _ ?_; clear V K0; simp only [put, app, Z, ae, zE, zS, D])
  (refine aF rfl fun K0 V => ?_; simp only [zE, op1, ev, lkp, ah, ag, ay, Nat.mul_one, aw, ax, acs, Ty.dflt, zG, ak, reduceCtorEq, E, D, J, S, M, O, Try.el22, Try.td22, Mly.av]; (repeat refine And.intro (by first | omega | assumption | exact rfl) ?_); refine V _ ?_; clear V K0; simp only [put, app, Z, ae, zE, zS, D])
  (refine aF rfl fun K0 V => ?_; simp only [zE, op1, ev, lkp, ah, ag, ao, reduceCtorEq, E, D, J, S, M, O, Try.st58, Try.td3, Try.td58, Mly.av]; (repeat refine And.intro (by first | omega | assumption | exact rfl) ?_); refine V _ ?_; clear V K0; simp only [put, app, Z, ae, zE, zS, D])
  (refine aF rfl fun K0 V => ?_; simp only [zE, op1, ev, lkp, ah, ag, ay, Nat.mul_one, aw, ax, acs, Ty.dflt, zG, ak, reduceCtorEq, E, D, J, S, M, O, Try.el22, Try.td22, Mly.av]; (repeat refine And.intro (by first | omega | assumption | exact rfl) ?_); refine V _ ?_; clear V K0; simp only [put, app, Z, ae, zE, zS, D])
  refine aF rfl fun K0 V => ?_
  refine aT (h := aL (mO m.ot n.ot)) rfl rfl (by first | exact rfl | (simp only [ev, U, lkp, zE, reduceCtorEq, E, Y, D]; exact rfl)) (by simp only [zE, zG, op1, ev, lkp, ah, ag, am, acs, be, mv1, mvC, Ty.dflt, reduceCtorEq, E, D, J, S, M, O, Mly.av]) ?_
  refine V _ ?_; clear V K0; simp only [put, app, Z, ae, zE, zS, D]
  (refine ab rfl fun K0 V => ?_; simp only [zE, op1, ev, lkp, ah, ag, bt, reduceCtorEq, E, D, J, S, M, O, Try.td4, Mly.av]; refine V _ ?_; clear V K0; simp only [put, app, Z, ae, zE, zS, D])
  refine ai ?_
  refine ⟨by simp only [U, lkp, zE, reduceCtorEq, E, Y, D]; exact rfl, rfl, ?_, rfl⟩; (repeat refine aY rfl ?_); exact bz (by exact rfl) hq5
 case b5 => exact bv (by first | rfl | (simp [bU]; done) | decide)
 simp only [bh, bc]
 (refine ab rfl fun K0 V => ?_; simp only [zE, op1, ev, lkp, ah, ag, ev, reduceCtorEq, E, D, J, S, M, O, Try.td4, Mly.av]; refine V _ ?_; clear V K0; simp only [put, app, Z, ae, zE, zS, D])
 refine ai ?_
 refine hK2 _ ?_; clear hK2; refine ad [0, 1, 2, 3, 4] ?_; simp only [U, lkp, zE, reduceCtorEq, E, Y, D]
 refine aH ?_
 refine ⟨by first | exact .inl rfl | exact .inr rfl, _, rfl, ?_⟩; simp only [fzV, fz1, fzC, List.map_cons, List.map_nil, U, lkp, zE, reduceCtorEq, E, Y, D, Mly.av]
 refine VLE.of_eq ?_
 rfl
end Go.Proofs.Ytdkgcbhbpdbmnaa
namespace Go.Proofs.Ytdkgcbhbpdbmnaa
open Go Go.AV
open Nat renaming reduceEqDiff → E, reduceAdd → D, reduceLeDiff → J, reduceLT → S, reduceMul → M, reduceSub → O
open List renaming set_cons_zero → au, set_cons_succ → ar
end Go.Proofs.Ytdkgcbhbpdbmnaa
namespace Go.Proofs.Ytdkgcbhbpdbmnaa
open Go Go.AV
open Nat renaming reduceEqDiff → E, reduceAdd → D, reduceLeDiff → J, reduceLT → S, reduceMul → M, reduceSub → O
open List renaming set_cons_zero → au, set_cons_succ → ar
end Go.Proofs.Ytdkgcbhbpdbmnaa
namespace Go.Proofs.Ytdkgcbhbpdbmnaa
open Go Go.AV
open Nat renaming reduceEqDiff → E, reduceAdd → D, reduceLeDiff → J, reduceLT → S, reduceMul → M, reduceSub → O
open List renaming set_cons_zero → au, set_cons_succ → ar
set_option maxRecDepth 100000 in
theorem rr (d : Dfa) (m : Mly) (acc : Bool) : bG Try.prog 6 [d.av, m.av, .one (.bool acc)] (.one (.bool true)) := by
 refine aR Try.func6 rfl (by kernel_rfl) (Nat.le_of_ble_eq_true rfl) rfl fun C hP hN hB => ?_
 replace hN : C.N = 65 := hN
 simp only [Y, D]
 refine aa fun K1 hK1 => ?_
 refine af hP hN rfl ?_
 iterate 3 (refine ab rfl fun K0 V => ?_; simp only [zE, op1, ev, lkp, ah, ag, ca, am, reduceCtorEq, E, D, J, S, M, O, Try.st25, Try.st58, Try.td25, Try.td4, Try.td58, Dfa.av, Mly.av]; (repeat refine And.intro (by first | omega | assumption | exact rfl) ?_); refine V _ ?_; clear V K0; simp only [put, app, Z, ae, zE, zS, D])
 refine ai ?_
 refine hK1 _ ?_; clear hK1; refine ad [0, 1, 2, 3, 4, 6] ?_; simp only [U, lkp, zE, reduceCtorEq, E, Y, D]
 refine aa fun K2 hK2 => ?_
 refine aa fun K3 hK3 => ?_
 refine af hP hN rfl ?_
 (refine ab rfl fun K0 V => ?_; simp only [zE, op1, ev, lkp, ah, ag, ay, Nat.mul_one, aw, ax, acs, Ty.dflt, zG, ak, reduceCtorEq, E, D, J, S, M, O, Try.st25, Try.td25, Dfa.av, Mly.av]; (repeat refine And.intro (by first | omega | assumption | exact rfl) ?_); refine V _ ?_; clear V K0; simp only [put, app, Z, ae, zE, zS, D])
 refine ab rfl fun K0 V => ?_
 refine aT (h := aL (oW d)) rfl rfl (by first | exact rfl | (simp only [ev, U, lkp, zE, reduceCtorEq, E, Y, D]; exact rfl)) (by simp only [zE, zG, op1, ev, lkp, ah, ag, am, acs, be, mv1, mvC, Ty.dflt, reduceCtorEq, E, D, J, S, M, O, Dfa.av, Mly.av]) ?_
 refine V _ ?_; clear V K0; simp only [put, app, Z, ae, zE, zS, D]
 (refine ab rfl fun K0 V => ?_; simp only [zE, op1, ev, lkp, ah, ag, ev, reduceCtorEq, E, D, J, S, M, O, Try.td4, Dfa.av, Mly.av]; refine V _ ?_; clear V K0; simp only [put, app, Z, ae, zE, zS, D])
 refine' aW (want := false) 2 rfl (m := 17) (by simp only [U, lkp, zE, reduceCtorEq, E, Y, D]; exact rfl) (by kernel_rfl) rfl rfl rfl rfl rfl (fun hg4 => ?a4) ?b4 ?c4
 case a4 =>
  have hq4 := hg4; (try simp only [zB, reduceCtorEq] at hg4); simp only [List.take_succ_cons, List.take_zero, List.cons_append, List.nil_append]
  (refine aF rfl fun K0 V => ?_; simp only [zE, op1, ev, lkp, ah, ag, ay, Nat.mul_one, aw, ax, acs, Ty.dflt, zG, ak, reduceCtorEq, E, D, J, S, M, O, Try.st58, Try.td58, Dfa.av, Mly.av]; (repeat refine And.intro (by first | omega | assumption | exact rfl) ?_); refine V _ ?_; clear V K0; simp only [put, app, Z, ae, zE, zS, D])
  refine aF rfl fun K0 V => ?_
  refine aT (h := aL (mX m)) rfl rfl (by first | exact rfl | (simp only [ev, U, lkp, zE, reduceCtorEq, E, Y, D]; exact rfl)) (by simp only [zE, zG, op1, ev, lkp, ah, ag, am, acs, be, mv1, mvC, Ty.dflt, reduceCtorEq, E, D, J, S, M, O, Dfa.av, Mly.av]) ?_
  refine V _ ?_; clear V K0; simp only [put, app, Z, ae, zE, zS, D]
  (refine ab rfl fun K0 V => ?_; simp only [zE, op1, ev, lkp, ah, ag, bt, reduceCtorEq, E, D, J, S, M, O, Try.td4, Dfa.av, Mly.av]; refine V _ ?_; clear V K0; simp only [put, app, Z, ae, zE, zS, D])
  refine ai ?_
  refine ⟨by simp only [U, lkp, zE, reduceCtorEq, E, Y, D]; exact rfl, rfl, ?_, rfl⟩; (repeat refine aY rfl ?_); exact bz (by exact rfl) hq4
 case b4 => exact bv (by first | rfl | (simp [bU]; done) | decide)
 simp only [bh, bc]
 refine ai ?_
 refine hK3 _ ?_; clear hK3; refine ad [0, 1, 2, 3, 4, 6, 20] ?_; simp only [U, lkp, zE, reduceCtorEq, E, Y, D]
 refine aA (by simp only [ev, U, lkp, zE, reduceCtorEq, E, Y, D]; exact rfl) (fun hc5 => ?_) (fun hc5 => ?_)
 ·(try simp only [zB, reduceCtorEq] at hc5)
  refine aa fun K6 hK6 => ?_
  refine af hP hN rfl ?_
  refine ab rfl fun K0 V => ?_
  refine aT (h := aL jl) rfl rfl (by first | exact rfl | (simp only [ev, U, lkp, zE, reduceCtorEq, E, Y, D]; exact rfl)) (by simp only [zE, zG, op1, ev, lkp, ah, ag, am, acs, be, mv1, mvC, Ty.dflt, reduceCtorEq, E, D, J, S, M, O, Dfa.av, Mly.av]) ?_
  refine V _ ?_; clear V K0; simp only [put, app, Z, ae, zE, zS, D]
  (refine ab rfl fun K0 V => ?_; simp only [zE, op1, ev, lkp, ah, ag, ev, reduceCtorEq, E, D, J, S, M, O, Try.td4, Dfa.av, Mly.av]; refine V _ ?_; clear V K0; simp only [put, app, Z, ae, zE, zS, D])
  refine ai ?_
  refine hK6 _ ?_; clear hK6; refine ad [0, 1, 2, 3, 4, 6, 20] ?_; simp only [U, lkp, zE, reduceCtorEq, E, Y, D]
  refine aH ?_
  refine ⟨by first | exact .inl rfl | exact .inr rfl, _, rfl, ?_⟩; simp only [fzV, fz1, fzC, List.map_cons, List.map_nil, U, lkp, zE, reduceCtorEq, E, Y, D, Dfa.av, Mly.av]
  refine VLE.of_eq ?_
  first | rfl | (refine congrArg (fun b => AV.one (AC.bool b)) ?_; simp [iU, jX]; done)
 ·(try simp only [zB, reduceCtorEq] at hc5)
  refine aG ?_
  refine hK2 _ ?_; clear hK2; refine ad [0, 1, 2, 3, 4, 6, 20] ?_; simp only [U, lkp, zE, reduceCtorEq, E, Y, D]
  refine aa fun K7 hK7 => ?_
  refine af hP hN rfl ?_
  (refine ab rfl fun K0 V => ?_; simp only [zE, op1, ev, lkp, ah, ag, ay, Nat.mul_one, aw, ax, acs, Ty.dflt, zG, ak, reduceCtorEq, E, D, J, S, M, O, Try.st25, Try.td25, Dfa.av, Mly.av]; (repeat refine And.intro (by first | omega | assumption | exact rfl) ?_); refine V _ ?_; clear V K0; simp only [put, app, Z, ae, zE, zS, D])
  refine ab rfl fun K0 V => ?_
  refine aT (h := aL (nR d)) rfl rfl (by first | exact rfl | (simp only [ev, U, lkp, zE, reduceCtorEq, E, Y, D]; exact rfl)) (by simp only [zE, zG, op1, ev, lkp, ah, ag, am, acs, be, mv1, mvC, Ty.dflt, reduceCtorEq, E, D, J, S, M, O, Dfa.av, Mly.av]) ?_
  refine V _ ?_; clear V K0; simp only [put, app, Z, ae, zE, zS, D]
  iterate 6 (refine ab rfl fun K0 V => ?_; simp only [zE, op1, ev, lkp, ah, ag, bM, bE, aZ, Nat.mul_one, am, aO, aI, acs, Ty.size, Ty.dflt, zG, reduceCtorEq, E, D, J, S, M, O, Try.st58, Try.td1, Try.td29, Try.td58, Dfa.av, Mly.av]; (repeat refine And.intro (by first | omega | assumption | exact rfl) ?_); (first | refine V _ ?_ | refine Or.inl (V _ ?_)); clear V K0; simp only [put, app, Z, ae, zE, zS, D])
  refine ai ?_
  refine hK7 _ ?_; clear hK7; refine ad [0, 1, 2, 3, 4, 6, 7, 8, 20] ?_; simp only [U, lkp, zE, reduceCtorEq, E, Y, D]
  refine aa fun K8 hK8 => ?_
  refine af hP hN rfl ?_
  (refine ab rfl fun K0 V => ?_; simp only [zE, op1, ev, lkp, ah, ag, ay, Nat.mul_one, aw, ax, acs, Ty.dflt, zG, ak, reduceCtorEq, E, D, J, S, M, O, Try.st25, Try.td25, Dfa.av, Mly.av]; (repeat refine And.intro (by first | omega | assumption | exact rfl) ?_); refine V _ ?_; clear V K0; simp only [put, app, Z, ae, zE, zS, D])
  refine ab rfl fun K0 V => ?_
  refine aT (h := aL (pa d)) rfl rfl (by first | exact rfl | (simp only [ev, U, lkp, zE, reduceCtorEq, E, Y, D]; exact rfl)) (by simp only [zE, zG, op1, ev, lkp, ah, ag, am, acs, be, mv1, mvC, Ty.dflt, reduceCtorEq, E, D, J, S, M, O, Dfa.av, Mly.av]) ?_
  refine V _ ?_; clear V K0; simp only [put, app, Z, ae, zE, zS, D]
  iterate 6 (refine ab rfl fun K0 V => ?_; simp only [zE, op1, ev, lkp, ah, ag, bM, bE, aZ, Nat.mul_one, am, aO, aI, acs, Ty.size, Ty.dflt, zG, reduceCtorEq, E, D, J, S, M, O, Try.st58, Try.td1, Try.td3, Try.td58, Dfa.av, Mly.av]; (repeat refine And.intro (by first | omega | assumption | exact rfl) ?_); (first | refine V _ ?_ | refine Or.inl (V _ ?_)); clear V K0; simp only [put, app, Z, ae, zE, zS, D])
  refine ai ?_
  refine hK8 _ ?_; clear hK8; refine ad [0, 1, 2, 3, 4, 6, 7, 8, 9, 10, 20] ?_; simp only [U, lkp, zE, reduceCtorEq, E, Y, D]
  refine aa fun K9 hK9 => ?_
  refine af hP hN rfl ?_
  iterate 2 (refine ab rfl fun K0 V => ?_; simp only [zE, op1, ev, lkp, ah, ag, ay, Nat.mul_one, aw, ax, acs, Ty.dflt, zG, ak, reduceCtorEq, E, D, J, S, M, O, Try.st58, Try.td4, Try.td58, Dfa.av, Mly.av]; (repeat refine And.intro (by first | omega | assumption | exact rfl) ?_); refine V _ ?_; clear V K0; simp only [put, app, Z, ae, zE, zS, D])
  refine ab rfl fun K0 V => ?_
  refine aT (h := aL (lH m acc)) rfl rfl (by first | exact rfl | (simp only [ev, U, lkp, zE, reduceCtorEq, E, Y, D]; exact rfl)) (by simp only [zE, zG, op1, ev, lkp, ah, ag, am, acs, be, mv1, mvC, Ty.dflt, reduceCtorEq, E, D, J, S, M, O, Dfa.av, Mly.av]) ?_
  refine V _ ?_; clear V K0; simp only [put, app, Z, ae, zE, zS, D]
  iterate 6 (refine ab rfl fun K0 V => ?_; simp only [zE, op1, ev, lkp, ah, ag, bM, bE, aZ, Nat.mul_one, am, aO, aI, acs, Ty.size, Ty.dflt, zG, reduceCtorEq, E, D, J, S, M, O, Try.st25, Try.td1, Try.td25, Try.td29, Dfa.av, Mly.av]; (repeat refine And.intro (by first | omega | assumption | exact rfl) ?_); (first | refine V _ ?_ | refine Or.inl (V _ ?_)); clear V K0; simp only [put, app, Z, ae, zE, zS, D])
  refine ai ?_
  refine hK9 _ ?_; clear hK9; refine ad [0, 1, 2, 3, 4, 6, 7, 8, 9, 10, 11, 12, 20] ?_; simp only [U, lkp, zE, reduceCtorEq, E, Y, D]
  refine aa fun K10 hK10 => ?_
  refine af hP hN rfl ?_
  iterate 2 (refine ab rfl fun K0 V => ?_; simp only [zE, op1, ev, lkp, ah, ag, ay, Nat.mul_one, aw, ax, acs, Ty.dflt, zG, ak, reduceCtorEq, E, D, J, S, M, O, Try.st58, Try.td4, Try.td58, Dfa.av, Mly.av]; (repeat refine And.intro (by first | omega | assumption | exact rfl) ?_); refine V _ ?_; clear V K0; simp only [put, app, Z, ae, zE, zS, D])
  refine ab rfl fun K0 V => ?_
  refine aT (h := aL (oA m acc)) rfl rfl (by first | exact rfl | (simp only [ev, U, lkp, zE, reduceCtorEq, E, Y, D]; exact rfl)) (by simp only [zE, zG, op1, ev, lkp, ah, ag, am, acs, be, mv1, mvC, Ty.dflt, reduceCtorEq, E, D, J, S, M, O, Dfa.av, Mly.av]) ?_
  refine V _ ?_; clear V K0; simp only [put, app, Z, ae, zE, zS, D]
  iterate 6 (refine ab rfl fun K0 V => ?_; simp only [zE, op1, ev, lkp, ah, ag, bM, bE, aZ, Nat.mul_one, am, aO, aI, acs, Ty.size, Ty.dflt, zG, reduceCtorEq, E, D, J, S, M, O, Try.st25, Try.td1, Try.td25, Try.td3, Dfa.av, Mly.av]; (repeat refine And.intro (by first | omega | assumption | exact rfl) ?_); (first | refine V _ ?_ | refine Or.inl (V _ ?_)); clear V K0; simp only [put, app, Z, ae, zE, zS, D])
  refine ai ?_
  refine hK10 _ ?_; clear hK10; refine ad [0, 1, 2, 3, 4, 6, 7, 8, 9, 10, 11, 12, 13, 14, 20] ?_; simp only [U, lkp, zE, reduceCtorEq, E, Y, D]
  refine aa fun K11 hK11 => ?_
  refine af hP hN rfl ?_
  iterate 2 (refine ab rfl fun K0 V => ?_; simp only [zE, op1, ev, lkp, ah, ag, ay, Nat.mul_one, aw, ax, acs, Ty.dflt, zG, ak, reduceCtorEq, E, D, J, S, M, O, Try.st58, Try.td58, Dfa.av, Mly.av]; (repeat refine And.intro (by first | omega | assumption | exact rfl) ?_); refine V _ ?_; clear V K0; simp only [put, app, Z, ae, zE, zS, D])
  refine ab rfl fun K0 V => ?_
  refine aT (h := aL (pT (toM d) (toM d))) rfl rfl (by first | exact rfl | (simp only [ev, U, lkp, zE, reduceCtorEq, E, Y, D]; exact rfl)) (by simp only [zE, zG, op1, ev, lkp, ah, ag, am, acs, be, mv1, mvC, Ty.dflt, reduceCtorEq, E, D, J, S, M, O, Dfa.av, Mly.av]) ?_
  refine V _ ?_; clear V K0; simp only [put, app, Z, ae, zE, zS, D]
  (refine ab rfl fun K0 V => ?_; simp only [zE, op1, ev, lkp, ah, ag, ev, reduceCtorEq, E, D, J, S, M, O, Try.td4, Dfa.av, Mly.av]; refine V _ ?_; clear V K0; simp only [put, app, Z, ae, zE, zS, D])
  refine' aW (want := true) 3 rfl (m := 47) (by simp only [U, lkp, zE, reduceCtorEq, E, Y, D]; exact rfl) (by kernel_rfl) rfl rfl rfl rfl rfl (fun hg12 => ?a12) ?b12 ?c12
  case a12 =>
   have hq12 := hg12; (try simp only [zB, reduceCtorEq] at hg12); simp only [List.take_succ_cons, List.take_zero, List.cons_append, List.nil_append]
   (refine aF rfl fun K0 V => ?_; simp only [zE, op1, ev, lkp, ah, ag, ev, reduceCtorEq, E, D, J, S, M, O, Try.td29, Dfa.av, Mly.av]; refine V _ ?_; clear V K0; simp only [put, app, Z, ae, zE, zS, D])
   (refine aF rfl fun K0 V => ?_; simp only [zE, op1, ev, lkp, ah, ag, ev, reduceCtorEq, E, D, J, S, M, O, Try.td3, Dfa.av, Mly.av]; refine V _ ?_; clear V K0; simp only [put, app, Z, ae, zE, zS, D])
   (refine aF rfl fun K0 V => ?_; simp only [zE, op1, ev, lkp, ah, ag, aB, aD, aC, aq, az, aP, reduceCtorEq, E, D, J, S, M, O, Try.td3, Try.td4, Dfa.av, Mly.av]; (repeat refine And.intro (by first | omega | assumption | exact rfl) ?_); refine V _ ?_; clear V K0; simp only [put, app, Z, ae, zE, zS, D])
   (refine ab rfl fun K0 V => ?_; simp only [zE, op1, ev, lkp, ah, ag, bt, reduceCtorEq, E, D, J, S, M, O, Try.td4, Dfa.av, Mly.av]; refine V _ ?_; clear V K0; simp only [put, app, Z, ae, zE, zS, D])
   refine ai ?_
   refine ⟨by simp only [U, lkp, zE, reduceCtorEq, E, Y, D]; exact rfl, rfl, ?_, rfl⟩; (repeat refine aY rfl ?_); exact bz (by exact rfl) hq12
  case b12 => exact bv (by first | rfl | (simp [bU]; done) | decide)
  simp only [bh, bc]
  (refine ab rfl fun K0 V => ?_; simp only [zE, op1, ev, lkp, ah, ag, ev, reduceCtorEq, E, D, J, S, M, O, Try.td4, Dfa.av, Mly.av]; refine V _ ?_; clear V K0; simp only [put, app, Z, ae, zE, zS, D])
  refine' aW (want := true) 3 rfl (m := 52) (by simp only [U, lkp, zE, reduceCtorEq, E, Y, D]; exact rfl) (by kernel_rfl) rfl rfl rfl rfl rfl (fun hg13 => ?a13) ?b13 ?c13
  case a13 =>
   have hq13 := hg13; (try simp only [zB, reduceCtorEq] at hg13); simp only [List.take_succ_cons, List.take_zero, List.cons_append, List.nil_append]
   (refine aF rfl fun K0 V => ?_; simp only [zE, op1, ev, lkp, ah, ag, ay, Nat.mul_one, aw, ax, acs, Ty.dflt, zG, ak, reduceCtorEq, E, D, J, S, M, O, Try.st25, Try.td25, Dfa.av, Mly.av]; (repeat refine And.intro (by first | omega | assumption | exact rfl) ?_); refine V _ ?_; clear V K0; simp only [put, app, Z, ae, zE, zS, D])
   (refine aF rfl fun K0 V => ?_; simp only [zE, op1, ev, lkp, ah, ag, ay, Nat.mul_one, aw, ax, acs, Ty.dflt, zG, ak, reduceCtorEq, E, D, J, S, M, O, Try.st25, Try.td25, Dfa.av, Mly.av]; (repeat refine And.intro (by first | omega | assumption | exact rfl) ?_); refine V _ ?_; clear V K0; simp only [put, app, Z, ae, zE, zS, D])
   refine aF rfl fun K0 V => ?_
   refine aT (h := aL (jv (fmD m acc) (fmD m acc) (rh m acc))) rfl rfl (by first | exact rfl | (simp only [ev, U, lkp, zE, reduceCtorEq, E, Y, D]; exact rfl)) (by simp only [zE, zG, op1, ev, lkp, ah, ag, am, acs, be, mv1, mvC, Ty.dflt, reduceCtorEq, E, D, J, S, M, O, Dfa.av, Mly.av]) ?_
   refine V _ ?_; clear V K0; simp only [put, app, Z, ae, zE, zS, D]
   (refine ab rfl fun K0 V => ?_; simp only [zE, op1, ev, lkp, ah, ag, bt, reduceCtorEq, E, D, J, S, M, O, Try.td4, Dfa.av, Mly.av]; refine V _ ?_; clear V K0; simp only [put, app, Z, ae, zE, zS, D])
   refine ai ?_
   refine ⟨by simp only [U, lkp, zE, reduceCtorEq, E, Y, D]; exact rfl, rfl, ?_, rfl⟩; (repeat refine aY rfl ?_); exact bz (by exact rfl) hq13
  case b13 => exact bv (by first | rfl | (simp [bU]; done) | decide)
  simp only [bh, bc]
  (refine ab rfl fun K0 V => ?_; simp only [zE, op1, ev, lkp, ah, ag, ev, reduceCtorEq, E, D, J, S, M, O, Try.td4, Dfa.av, Mly.av]; refine V _ ?_; clear V K0; simp only [put, app, Z, ae, zE, zS, D])
  refine' aW (want := true) 3 rfl (m := 57) (by simp only [U, lkp, zE, reduceCtorEq, E, Y, D]; exact rfl) (by kernel_rfl) rfl rfl rfl rfl rfl (fun hg14 => ?a14) ?b14 ?c14
  case a14 =>
   have hq14 := hg14; (try simp only [zB, reduceCtorEq] at hg14); simp only [List.take_succ_cons, List.take_zero, List.cons_append, List.nil_append]
   (refine aF rfl fun K0 V => ?_; simp only [zE, op1, ev, lkp, ah, ag, ev, reduceCtorEq, E, D, J, S, M, O, Try.td29, Dfa.av, Mly.av]; refine V _ ?_; clear V K0; simp only [put, app, Z, ae, zE, zS, D])
   (refine aF rfl fun K0 V => ?_; simp only [zE, op1, ev, lkp, ah, ag, ev, reduceCtorEq, E, D, J, S, M, O, Try.td3, Dfa.av, Mly.av]; refine V _ ?_; clear V K0; simp only [put, app, Z, ae, zE, zS, D])
   (refine aF rfl fun K0 V => ?_; simp only [zE, op1, ev, lkp, ah, ag, aB, aD, aC, aq, az, aP, reduceCtorEq, E, D, J, S, M, O, Try.td3, Try.td4, Dfa.av, Mly.av]; (repeat refine And.intro (by first | omega | assumption | exact rfl) ?_); refine V _ ?_; clear V K0; simp only [put, app, Z, ae, zE, zS, D])
   (refine ab rfl fun K0 V => ?_; simp only [zE, op1, ev, lkp, ah, ag, bt, reduceCtorEq, E, D, J, S, M, O, Try.td4, Dfa.av, Mly.av]; refine V _ ?_; clear V K0; simp only [put, app, Z, ae, zE, zS, D])
   refine ai ?_
   refine ⟨by simp only [U, lkp, zE, reduceCtorEq, E, Y, D]; exact rfl, rfl, ?_, rfl⟩; (repeat refine aY rfl ?_); exact bz (by exact rfl) hq14
  case b14 => exact bv (by first | rfl | (simp [bU]; done) | decide)
  simp only [bh, bc]
  (refine ab rfl fun K0 V => ?_; simp only [zE, op1, ev, lkp, ah, ag, ev, reduceCtorEq, E, D, J, S, M, O, Try.td4, Dfa.av, Mly.av]; refine V _ ?_; clear V K0; simp only [put, app, Z, ae, zE, zS, D])
  refine' aW (want := true) 1 rfl (m := 62) (by simp only [U, lkp, zE, reduceCtorEq, E, Y, D]; exact rfl) (by kernel_rfl) rfl rfl rfl rfl rfl (fun hg15 => ?a15) ?b15 ?c15
  case a15 =>
   have hq15 := hg15; (try simp only [zB, reduceCtorEq] at hg15); simp only [List.take_succ_cons, List.take_zero, List.cons_append, List.nil_append]
   refine aF rfl fun K0 V => ?_
   refine aT (h := aL jl) rfl rfl (by first | exact rfl | (simp only [ev, U, lkp, zE, reduceCtorEq, E, Y, D]; exact rfl)) (by simp only [zE, zG, op1, ev, lkp, ah, ag, am, acs, be, mv1, mvC, Ty.dflt, reduceCtorEq, E, D, J, S, M, O, Dfa.av, Mly.av]) ?_
   refine V _ ?_; clear V K0; simp only [put, app, Z, ae, zE, zS, D]
   (refine ab rfl fun K0 V => ?_; simp only [zE, op1, ev, lkp, ah, ag, bt, reduceCtorEq, E, D, J, S, M, O, Try.td4, Dfa.av, Mly.av]; refine V _ ?_; clear V K0; simp only [put, app, Z, ae, zE, zS, D])
   refine ai ?_
   refine ⟨by simp only [U, lkp, zE, reduceCtorEq, E, Y, D]; exact rfl, rfl, ?_, rfl⟩; (repeat refine aY rfl ?_); exact bz (by exact rfl) hq15
  case b15 => exact bv (by first | rfl | (simp [bU]; done) | decide)
  simp only [bh, bc]
  (refine ab rfl fun K0 V => ?_; simp only [zE, op1, ev, lkp, ah, ag, ev, reduceCtorEq, E, D, J, S, M, O, Try.td4, Dfa.av, Mly.av]; refine V _ ?_; clear V K0; simp only [put, app, Z, ae, zE, zS, D])
  refine ai ?_
  refine hK11 _ ?_; clear hK11; refine ad [0, 1, 2, 3, 4, 6, 7, 8, 9, 10, 11, 12, 13, 14, 20] ?_; simp only [U, lkp, zE, reduceCtorEq, E, Y, D]
  refine aH ?_
  refine ⟨by first | exact .inl rfl | exact .inr rfl, _, rfl, ?_⟩; simp only [fzV, fz1, fzC, List.map_cons, List.map_nil, U, lkp, zE, reduceCtorEq, E, Y, D, Dfa.av, Mly.av]
  refine VLE.of_eq ?_
  first | rfl | (refine congrArg (fun b => AV.one (AC.bool b)) ?_; simp [iU, jX]; done)
end Go.Proofs.Ytdkgcbhbpdbmnaa
