/- Contracts of functions of this seat, each out of a walk through its code, and plain facts on what they compute. Conditions: those that each theorem names. -/
import Derived.Test.YtdkgcbhbpdbmnaaW05
set_option linter.unusedSimpArgs false
set_option linter.unusedVariables false
namespace Go.Proofs.Ytdkgcbhbpdbmnaa
open Go Go.AV
open Nat renaming reduceEqDiff → E, reduceAdd → D, reduceLeDiff → J, reduceLT → S, reduceMul → M, reduceSub → O
open List renaming set_cons_zero → aq, set_cons_succ → ao
set_option maxRecDepth 100000 in
theorem oG (d : Dfa) : bB Try.prog 15 [d.av] (.tup [(coD d).av, .one (.int .i64 (bf d))]) := by
 refine aQ Try.func15 rfl (by kernel_rfl) (Nat.le_of_ble_eq_true rfl) rfl fun C hP hN hB => ?_
 replace hN : C.N = 32 := hN
 simp only [Y, D]
 refine ab fun K1 hK1 => ?_
 refine ah hP hN rfl ?_
 iterate 3 (refine aa rfl fun K0 V => ?_; simp only [zE, op1, ev, lkp, ag, af, bV, ak, bE, reduceCtorEq, E, D, J, S, M, O, Try.st25, Try.td25, Try.td3, Dfa.av, List.getD_cons_zero, List.getD_cons_succ, List.cons_append, List.nil_append]; (repeat refine And.intro (by first | omega | assumption | exact rfl) ?_); (first | refine V _ ?_ | refine Or.inl (V _ ?_)); clear V K0; simp only [put, app, Z, ae, zE, zS, D])
 refine ai ?_
 refine hK1 _ ?_; clear hK1; refine ad [0, 1, 2, 3] ?_; simp only [U, lkp, zE, reduceCtorEq, E, Y, D]
 refine ab fun K2 hK2 => ?_
 refine ab fun K3 hK3 => ?_
 refine ah hP hN rfl ?_
 (refine aa rfl fun K0 V => ?_; simp only [zE, op1, ev, lkp, ag, af, ay, Nat.mul_one, au, ax, acs, Ty.dflt, zG, am, reduceCtorEq, E, D, J, S, M, O, Try.st25, Try.td25, Dfa.av, List.getD_cons_zero, List.getD_cons_succ, List.cons_append, List.nil_append]; (repeat refine And.intro (by first | omega | assumption | exact rfl) ?_); refine V _ ?_; clear V K0; simp only [put, app, Z, ae, zE, zS, D])
 refine aa rfl fun K0 V => ?_
 refine aR (h := az (dg d)) rfl rfl (by first | exact rfl | (simp only [ev, U, lkp, zE, reduceCtorEq, E, Y, D]; exact rfl)) (by simp only [zE, zG, op1, ev, lkp, ag, af, ak, acs, aW, mv1, mvC, Ty.dflt, reduceCtorEq, E, D, J, S, M, O, Dfa.av, List.getD_cons_zero, List.getD_cons_succ, List.cons_append, List.nil_append]) ?_
 refine V _ ?_; clear V K0; simp only [put, app, Z, ae, zE, zS, D]
 (refine aa rfl fun K0 V => ?_; simp only [zE, op1, ev, lkp, ag, af, aC, aE, aD, ar, aA, aP, reduceCtorEq, E, D, J, S, M, O, Try.td3, Try.td4, Dfa.av, List.getD_cons_zero, List.getD_cons_succ, List.cons_append, List.nil_append]; (repeat refine And.intro (by first | omega | assumption | exact rfl) ?_); refine V _ ?_; clear V K0; simp only [put, app, Z, ae, zE, zS, D])
 refine ai ?_
 refine hK3 _ ?_; clear hK3; refine ad [0, 1, 2, 3, 8] ?_; simp only [U, lkp, zE, reduceCtorEq, E, Y, D]
 refine aB (by simp only [ev, U, lkp, zE, reduceCtorEq, E, Y, D]; exact rfl) (fun hc4 => ?_) (fun hc4 => ?_)
 ·(try simp only [zB, reduceCtorEq] at hc4)
  refine ab fun K5 hK5 => ?_
  refine ah hP hN rfl ?_
  iterate 2 (refine aa rfl fun K0 V => ?_; simp only [zE, op1, ev, lkp, ag, af, bJ, aY, aN, ak, ay, Nat.mul_one, au, ax, acs, Ty.dflt, zG, am, reduceCtorEq, E, D, J, S, M, O, Try.st25, Try.td25, Dfa.av, List.getD_cons_zero, List.getD_cons_succ, List.cons_append, List.nil_append]; (repeat refine And.intro (by first | omega | assumption | exact rfl) ?_); (first | refine V _ ?_ | refine Or.inl (V _ ?_)); clear V K0; simp only [put, app, Z, ae, zE, zS, D])
  refine aa rfl fun K0 V => ?_
  refine aR (h := az (dg d)) rfl rfl (by first | exact rfl | (simp only [ev, U, lkp, zE, reduceCtorEq, E, Y, D]; exact rfl)) (by simp only [zE, zG, op1, ev, lkp, ag, af, ak, acs, aW, mv1, mvC, Ty.dflt, reduceCtorEq, E, D, J, S, M, O, Dfa.av, List.getD_cons_zero, List.getD_cons_succ, List.cons_append, List.nil_append]) ?_
  refine V _ ?_; clear V K0; simp only [put, app, Z, ae, zE, zS, D]
  iterate 2 (refine aa rfl fun K0 V => ?_; simp only [zE, op1, ev, lkp, ag, af, be, Nat.mul_one, ak, aN, aK, acs, Ty.size, Ty.dflt, zG, reduceCtorEq, E, D, J, S, M, O, Try.st25, Try.td25, Try.td3, Dfa.av, List.getD_cons_zero, List.getD_cons_succ, List.cons_append, List.nil_append]; (repeat refine And.intro (by first | omega | assumption | exact rfl) ?_); refine V _ ?_; clear V K0; simp only [put, app, Z, ae, zE, zS, D])
  refine ai ?_
  refine hK5 _ ?_; clear hK5; refine ad [0, 1, 2, 3, 8] ?_; simp only [U, lkp, zE, reduceCtorEq, E, Y, D]
  refine aF ?_
  refine ⟨by first | exact .inl rfl | exact .inr rfl, _, rfl, ?_⟩; simp only [fzV, fz1, fzC, List.map_cons, List.map_nil, U, lkp, zE, reduceCtorEq, E, Y, D, Dfa.av, List.getD_cons_zero, List.getD_cons_succ, List.cons_append, List.nil_append]
  first
  | (rw [lP (by assumption)]; exact bD ⟨bK ⟨.refl _, .refl _, aT rfl, aT rfl, trivial⟩, bu (.refl _), trivial⟩)
  | (rw [m9 hv, hv]; exact VLE.of_eq rfl)
 ·(try simp only [zB, reduceCtorEq] at hc4)
  have hv : bf d = 0 := by omega
  have hd := de hv; have a1 := hd.i1; have a2 := hd.i2; have a3 := hd.n1; have a4 := hd.n2; have a5 := hd.s1; have a6 := hd.s2; have a7 := hd.al
  refine aJ ?_
  refine hK2 _ ?_; clear hK2; refine ad [0, 1, 2, 3, 8] ?_; simp only [U, lkp, zE, reduceCtorEq, E, Y, D]
  refine ab fun K6 hK6 => ?_
  refine ah hP hN rfl ?_
  (refine aa rfl fun K0 V => ?_; simp only [zE, op1, ev, lkp, ag, af, ay, Nat.mul_one, au, ax, acs, Ty.dflt, zG, am, reduceCtorEq, E, D, J, S, M, O, Try.st25, Try.td25, Dfa.av, List.getD_cons_zero, List.getD_cons_succ, List.cons_append, List.nil_append]; (repeat refine And.intro (by first | omega | assumption | exact rfl) ?_); refine V _ ?_; clear V K0; simp only [put, app, Z, ae, zE, zS, D])
  refine aa rfl fun K0 V => ?_
  refine aR (h := qM d hd _) rfl rfl (by first | exact rfl | (simp only [ev, U, lkp, zE, reduceCtorEq, E, Y, D]; exact rfl)) (by simp only [zE, zG, op1, ev, lkp, ag, af, ak, acs, aW, mv1, mvC, Ty.dflt, reduceCtorEq, E, D, J, S, M, O, Dfa.av, List.getD_cons_zero, List.getD_cons_succ, List.cons_append, List.nil_append]) ?_
  refine V _ ?_; clear V K0; simp only [put, app, Z, ae, zE, zS, D]
  iterate 2 (refine aa rfl fun K0 V => ?_; simp only [zE, op1, ev, lkp, ag, af, bE, be, Nat.mul_one, ak, aN, aK, acs, Ty.size, Ty.dflt, zG, reduceCtorEq, E, D, J, S, M, O, Try.st25, Try.td25, Dfa.av, List.getD_cons_zero, List.getD_cons_succ, List.cons_append, List.nil_append]; (repeat refine And.intro (by first | omega | assumption | exact rfl) ?_); (first | refine V _ ?_ | refine Or.inl (V _ ?_)); clear V K0; simp only [put, app, Z, ae, zE, zS, D])
  refine ai ?_
  refine hK6 _ ?_; clear hK6; refine ad [0, 1, 2, 3, 4, 8] ?_; simp only [U, lkp, zE, reduceCtorEq, E, Y, D]
  refine ab fun K7 hK7 => ?_
  refine ab fun K8 hK8 => ?_
  refine ah hP hN rfl ?_
  (refine aa rfl fun K0 V => ?_; simp only [zE, op1, ev, lkp, ag, af, ev, reduceCtorEq, E, D, J, S, M, O, Try.td3, Dfa.av, List.getD_cons_zero, List.getD_cons_succ, List.cons_append, List.nil_append]; refine V _ ?_; clear V K0; simp only [put, app, Z, ae, zE, zS, D])
  refine ai ?_
  refine hK8 _ ?_; clear hK8; refine ad [0, 1, 2, 3, 4, 5, 8] ?_; simp only [U, lkp, zE, reduceCtorEq, E, Y, D]
  refine aM ?_
  refine bp (fun n9 s9 => ∃ (k : Nat), (k ≤ d.acc.length) ∧ n9 = d.acc.length - k ∧ s9 = { env := [(2, .one (.ptr 1 0 0 0)), (3, .one (.int .i64 0)), (4, .one (.ptr 3 0 0 0)), (5, .one (.int .i64 (k : Int)))], L := [.vars 25 [.int .i64 d.inp, .int .i64 d.st, .list (.list (.int .i64)) d.nx, .list .bool d.acc], .vars 25 [.int .i64 0, .int .i64 0, .nils, .nils], .row .bool 4 0 (fB d.acc k), .vars 25 [.int .i64 d.inp, .int .i64 d.st, .list (.list (.int .i64)) d.nx, .row 2 0]] }) ?_ ?_
  ·exact ⟨_, _, aL [2, 3, 4, 5], 0, Nat.zero_le _, rfl, by rw [rj]; rfl⟩
  ·rintro n9 s9 ⟨k, hk, rfl, rfl⟩
   refine ab fun K10 hK10 => ?_
   refine ab fun K11 hK11 => ?_
   refine ah hP hN rfl ?_
   iterate 5 (refine aa rfl fun K0 V => ?_; simp only [zE, op1, ev, lkp, ag, af, aw, ay, Nat.mul_one, au, ax, acs, Ty.dflt, zG, am, aG, bo, bc, aX, aZ, bl, Nat.div_one, aO, b0, Ty.size, aK, dite_true, aC, aE, aD, ar, aA, aP, reduceCtorEq, E, D, J, S, M, O, Try.el23, Try.st25, Try.td23, Try.td25, Try.td3, Try.td4, Dfa.av, List.getD_cons_zero, List.getD_cons_succ, List.cons_append, List.nil_append, gd]; (repeat refine And.intro (by first | omega | assumption | exact rfl) ?_); (first | refine V _ ?_ | refine Or.inl (V _ ?_)); clear V K0; simp only [put, app, Z, ae, zE, zS, D])
   refine ai ?_
   refine hK11 _ ?_; clear hK11; refine ad [2, 3, 4, 5, 18] ?_; simp only [U, lkp, zE, reduceCtorEq, E, Y, D]
   refine aB (by simp only [ev, U, lkp, zE, reduceCtorEq, E, Y, D]; exact rfl) (fun hc12 => ?_) (fun hc12 => ?_)
   ·(try simp only [zB, reduceCtorEq] at hc12)
    refine aJ ?_
    refine hK10 _ ?_; clear hK10; refine ad [2, 3, 4, 5, 18] ?_; simp only [U, lkp, zE, reduceCtorEq, E, Y, D]
    refine ab fun K13 hK13 => ?_
    refine aM ?_
    have hka : k < d.acc.length := by have h9 := gd d.acc k; omega
    refine bQ hP hN Try.mixed rfl ?_
    iterate 11 (refine aa rfl fun K0 V => ?_; simp only [zE, op1, ev, lkp, ag, af, aw, ay, Nat.mul_one, au, ax, acs, Ty.dflt, zG, am, aH, Ty.size, ne_eq, not_false_eq_true, Int.natCast_one, Int.mul_one, fA, be, ak, aN, aK, reduceCtorEq, E, D, J, S, M, O, Try.el23, Try.st25, Try.td23, Try.td25, Try.td3, Try.td4, Dfa.av, List.getD_cons_zero, List.getD_cons_succ, List.cons_append, List.nil_append, gd, pa hka]; (repeat refine And.intro (by first | omega | assumption | exact rfl) ?_); refine V _ ?_; clear V K0; simp only [put, app, Z, ae, zE, zS, D])
    refine ai ?_
    refine ⟨by kernel_rfl, ?_⟩
    refine hK13 _ ?_; clear hK13; refine ad [2, 3, 4, 5, 18] ?_; simp only [U, lkp, zE, reduceCtorEq, E, Y, D]
    refine ah hP hN rfl ?_
    iterate 3 (refine aa rfl fun K0 V => ?_; simp only [zE, op1, ev, lkp, ag, af, aC, aE, aD, ar, aA, aP, reduceCtorEq, E, D, J, S, M, O, Try.td3, Dfa.av, List.getD_cons_zero, List.getD_cons_succ, List.cons_append, List.nil_append]; (repeat refine And.intro (by first | omega | assumption | exact rfl) ?_); refine V _ ?_; clear V K0; simp only [put, app, Z, ae, zE, zS, D])
    refine ai ?_
    refine ⟨_, _, ?_, aL [2, 3, 4, 5], k + 1, by omega, rfl, ?_⟩
    · omega
    · rw [← oY hka]; rfl
   ·(try simp only [zB, reduceCtorEq] at hc12)
    refine bm ?_
    refine hK7 _ ?_; clear hK7; refine ad [2, 3, 4, 5, 18] ?_; simp only [U, lkp, zE, reduceCtorEq, E, Y, D]
    refine ab fun K14 hK14 => ?_
    refine cw 2 3 rfl rfl ?_; simp only [List.map_cons, List.map_nil, frC, zS, E, and_self, and_true, true_and, and_false, false_and, if_true, if_false, eq_self, reduceCtorEq, Nat.one_ne_zero, Nat.zero_ne_one]
    have hk9 := gd d.acc k
    obtain rfl : k = d.acc.length := by omega
    rw [oO]
    refine ah hP hN rfl ?_
    iterate 3 (refine aa rfl fun K0 V => ?_; simp only [zE, op1, ev, lkp, ag, af, ay, Nat.mul_one, au, ax, acs, Ty.dflt, zG, am, be, ak, aN, aK, Ty.size, reduceCtorEq, E, D, J, S, M, O, Try.st25, Try.td25, Try.td3, Dfa.av, List.getD_cons_zero, List.getD_cons_succ, List.cons_append, List.nil_append]; (repeat refine And.intro (by first | omega | assumption | exact rfl) ?_); refine V _ ?_; clear V K0; simp only [put, app, Z, ae, zE, zS, D])
    refine ai ?_
    refine hK14 _ ?_; clear hK14; refine ad [2, 3, 4, 5, 18] ?_; simp only [U, lkp, zE, reduceCtorEq, E, Y, D]
    refine aF ?_
    refine ⟨by first | exact .inl rfl | exact .inr rfl, _, rfl, ?_⟩; simp only [fzV, fz1, fzC, List.map_cons, List.map_nil, U, lkp, zE, reduceCtorEq, E, Y, D, Dfa.av, List.getD_cons_zero, List.getD_cons_succ, List.cons_append, List.nil_append]
    first
    | (rw [lP (by assumption)]; exact bD ⟨bK ⟨.refl _, .refl _, aT rfl, aT rfl, trivial⟩, bu (.refl _), trivial⟩)
    | (rw [m9 hv, hv]; exact VLE.of_eq rfl)
end Go.Proofs.Ytdkgcbhbpdbmnaa
namespace Go.AV
open Nat renaming reduceEqDiff → E, reduceAdd → D, reduceLeDiff → J, reduceLT → S, reduceMul → M, reduceSub → O
open List renaming set_cons_zero → aq, set_cons_succ → ao
/-plain-/
/-! On dmeqTh, dfmTh. -/
theorem iW (a : Dfa) : fQ a a = true := jI.2 rfl
theorem rp {d : Dfa} (h : DOK d) : d.acc.length ≤ 1000 := by have := h.al; have := h.n2; omega
theorem r7 (d : Dfa) : (coD d).acc.length ≤ 1000 := by
  by_cases h : bf d = 0
  · rw [m9 h]
    have := rp (de h)
    show (d.acc.map (!·)).length ≤ 1000
    rw [List.length_map]; exact this
  · rw [lP h]; decide
end Go.AV
namespace Go.Proofs.Ytdkgcbhbpdbmnaa
open Go Go.AV
open Nat renaming reduceEqDiff → E, reduceAdd → D, reduceLeDiff → J, reduceLT → S, reduceMul → M, reduceSub → O
open List renaming set_cons_zero → aq, set_cons_succ → ao
set_option maxRecDepth 100000 in
theorem oq (l : List PP) (q : PP) (hl : l.length ≤ 100000) : bB Try.prog 60 [.one (.list (.pair (.int .i64) (.pair (.int .i64) .unit)) (List.map ed l)), .agg [.int .i64 q.1, .int .i64 q.2]] (.one (.int .i64 (pos l q : Int))) := by
 refine aQ Try.func60 rfl (by kernel_rfl) (Nat.le_of_ble_eq_true rfl) rfl fun C hP hN hB => ?_
 replace hN : C.N = 21 := hN
 simp only [Y, D]
 refine ab fun K1 hK1 => ?_
 refine ah hP hN rfl ?_
 iterate 2 (refine aa rfl fun K0 V => ?_; simp only [zE, op1, ev, lkp, ag, af, bV, ak, reduceCtorEq, E, D, J, S, M, O, Try.fl93, Try.st93, Try.td3, Try.td93, List.length_map]; (repeat refine And.intro (by first | omega | assumption | exact rfl) ?_); refine V _ ?_; clear V K0; simp only [put, app, Z, ae, zE, zS, D])
 refine ai ?_
 refine hK1 _ ?_; clear hK1; refine ad [0, 1, 3, 4] ?_; simp only [U, lkp, zE, reduceCtorEq, E, Y, D]
 refine ab fun K2 hK2 => ?_
 refine ah hP hN rfl ?_
 (refine aa rfl fun K0 V => ?_; simp only [zE, op1, ev, lkp, ag, af, ev, reduceCtorEq, E, D, J, S, M, O, Try.td3, List.length_map]; refine V _ ?_; clear V K0; simp only [put, app, Z, ae, zE, zS, D])
 refine ai ?_
 refine hK2 _ ?_; clear hK2; refine ad [0, 1, 3, 4, 5] ?_; simp only [U, lkp, zE, reduceCtorEq, E, Y, D]
 refine ab fun K3 hK3 => ?_
 refine aM ?_
 refine bp (fun n4 s4 => ∃ (k : Nat), (k ≤ l.length) ∧ (∀ j, j < k → l.getD j d0 ≠ q) ∧ n4 = l.length + 1 - k ∧ s4 = { env := [(0, .one (.list (.pair (.int .i64) (.pair (.int .i64) .unit)) (List.map ed l))), (3, .one (.ptr 0 0 0 0)), (4, .one (.int .i64 0)), (5, .one (.int .i64 (k : Int)))], L := [.vars 93 [.int .i64 q.1, .int .i64 q.2]] }) ?_ ?_
 ·exact ⟨_, _, aL [0, 3, 4, 5], 0, Nat.zero_le _, fun q hq => by omega, rfl, rfl⟩
 ·rintro n4 s4 ⟨k, hk, hq, rfl, rfl⟩
  refine ab fun K5 hK5 => ?_
  refine ab fun K6 hK6 => ?_
  have hgi : gt (.pair (.int .i64) (.pair (.int .i64) .unit)) (List.map ed l) (k : Int) = ((l.getD k d0).1, ((l.getD k d0).2, ())) := (qP l k).1
  refine bQ hP hN Try.mixed rfl ?_
  iterate 4 (refine aa rfl fun K0 V => ?_; simp only [zE, op1, ev, lkp, ag, af, aG, bo, bc, aX, aZ, bl, Nat.div_one, aO, b0, Ty.size, aK, dite_true, aC, aE, aD, ar, aA, aP, reduceCtorEq, E, D, J, S, M, O, Try.el89, Try.td3, Try.td4, Try.td89, List.length_map, hgi]; (repeat refine And.intro (by first | omega | assumption | exact rfl) ?_); (first | refine V _ ?_ | refine Or.inl (V _ ?_)); clear V K0; simp only [put, app, Z, ae, zE, zS, D])
  (refine aa rfl fun K0 V => ?_; simp only [zE, op1, ev, lkp, ag, af, ev, reduceCtorEq, E, D, J, S, M, O, Try.td4, List.length_map, hgi]; refine V _ ?_; clear V K0; simp only [put, app, Z, ae, zE, zS, D])
  refine' aU (want := true) 6 rfl (m := 10) (by simp only [U, lkp, zE, reduceCtorEq, E, Y, D]; exact rfl) (by kernel_rfl) rfl rfl rfl rfl rfl (fun hg7 => ?a7) ?b7 ?c7
  case a7 =>
   have hq7 := hg7; (try simp only [zB, reduceCtorEq] at hg7); simp only [List.take_succ_cons, List.take_zero, List.cons_append, List.nil_append]
   (refine aI rfl fun K0 V => ?_; simp only [zE, op1, ev, lkp, ag, af, ev, reduceCtorEq, E, D, J, S, M, O, Try.el89, Try.td89, List.length_map, hgi]; refine V _ ?_; clear V K0; simp only [put, app, Z, ae, zE, zS, D])
   (refine aI rfl fun K0 V => ?_; simp only [zE, op1, ev, lkp, ag, af, ev, reduceCtorEq, E, D, J, S, M, O, Try.td3, List.length_map, hgi]; refine V _ ?_; clear V K0; simp only [put, app, Z, ae, zE, zS, D])
   (refine aI rfl fun K0 V => ?_; simp only [zE, op1, ev, lkp, ag, af, aH, zG, Ty.dflt, Ty.size, Nat.mul_one, ne_eq, not_false_eq_true, Int.natCast_one, Int.mul_one, reduceCtorEq, E, D, J, S, M, O, Try.el89, Try.td89, List.length_map, hgi]; (repeat refine And.intro (by first | omega | assumption | exact rfl) ?_); refine V _ ?_; clear V K0; simp only [put, app, Z, ae, zE, zS, D])
   (refine aI rfl fun K0 V => ?_; simp only [zE, op1, ev, lkp, ag, af, ay, Nat.mul_one, au, ax, acs, Ty.dflt, zG, am, reduceCtorEq, E, D, J, S, M, O, Try.fl93, Try.st93, Try.td93, List.length_map, hgi]; (repeat refine And.intro (by first | omega | assumption | exact rfl) ?_); refine V _ ?_; clear V K0; simp only [put, app, Z, ae, zE, zS, D])
   (refine aI rfl fun K0 V => ?_; simp only [zE, op1, ev, lkp, ag, af, ay, Nat.mul_one, au, ax, acs, Ty.dflt, zG, am, reduceCtorEq, E, D, J, S, M, O, Try.fl93, Try.st93, Try.td93, List.length_map, hgi]; (repeat refine And.intro (by first | omega | assumption | exact rfl) ?_); refine V _ ?_; clear V K0; simp only [put, app, Z, ae, zE, zS, D])
   (refine aI rfl fun K0 V => ?_; simp only [zE, op1, ev, lkp, ag, af, aC, aE, aD, ar, aA, aP, reduceCtorEq, E, D, J, S, M, O, Try.fl93, Try.st93, Try.td4, Try.td93, List.length_map, hgi]; (repeat refine And.intro (by first | omega | assumption | exact rfl) ?_); refine V _ ?_; clear V K0; simp only [put, app, Z, ae, zE, zS, D])
   (refine aa rfl fun K0 V => ?_; simp only [zE, op1, ev, lkp, ag, af, bn, reduceCtorEq, E, D, J, S, M, O, Try.td4, List.length_map, hgi]; refine V _ ?_; clear V K0; simp only [put, app, Z, ae, zE, zS, D])
   refine ai ?_
   refine ⟨by simp only [U, lkp, zE, reduceCtorEq, E, Y, D]; exact rfl, rfl, ?_, rfl⟩; (repeat refine aV rfl ?_); exact br (by exact rfl) hq7
  case b7 => exact bq (by first | rfl | (simp [bT]; done) | decide)
  simp only [bk, bb]
  refine ai ?_
  refine ⟨by kernel_rfl, ?_⟩
  refine hK6 _ ?_; clear hK6; refine ad [0, 3, 4, 5, 17] ?_; simp only [U, lkp, zE, reduceCtorEq, E, Y, D]
  refine aB (by simp only [ev, U, lkp, zE, reduceCtorEq, E, Y, D]; exact rfl) (fun hc8 => ?_) (fun hc8 => ?_)
  ·(try simp only [zB, reduceCtorEq] at hc8)
   have hne : l.getD k d0 ≠ q := fun e => by
     have e1 := congrArg Prod.fst e; have e2 := congrArg Prod.snd e; have h9 := hc8; rw [e1, e2] at h9; simp at h9; done
   refine aJ ?_
   refine hK5 _ ?_; clear hK5; refine ad [0, 3, 4, 5, 17] ?_; simp only [U, lkp, zE, reduceCtorEq, E, Y, D]
   refine aM ?_
   refine ah hP hN rfl ?_
   iterate 3 (refine aa rfl fun K0 V => ?_; simp only [zE, op1, ev, lkp, ag, af, aC, aE, aD, ar, aA, aP, reduceCtorEq, E, D, J, S, M, O, Try.td3, List.length_map]; (repeat refine And.intro (by first | omega | assumption | exact rfl) ?_); refine V _ ?_; clear V K0; simp only [put, app, Z, ae, zE, zS, D])
   refine ai ?_
   refine ⟨_, _, ?_, aL [0, 3, 4, 5], k + 1, by omega, fun j hj => ?_, rfl, rfl⟩
   · omega
   · by_cases e : j = k
     · rw [e]; exact hne
     · exact hq j (by omega)
  ·(try simp only [zB, reduceCtorEq] at hc8)
   obtain ⟨hpk, _, _⟩ := rT (l := l) (q := q) (k := k) hq (by omega) (fun hkl => Prod.ext (by have h9 := hc8; omega) (by have h9 := hc8; omega))
   refine bm ?_
   refine hK3 _ ?_; clear hK3; refine ad [0, 3, 4, 5, 17] ?_; simp only [U, lkp, zE, reduceCtorEq, E, Y, D]
   refine ab fun K9 hK9 => ?_
   refine ah hP hN rfl ?_
   iterate 2 (refine aa rfl fun K0 V => ?_; simp only [zE, op1, ev, lkp, ag, af, ev, reduceCtorEq, E, D, J, S, M, O, Try.td3, List.length_map]; refine V _ ?_; clear V K0; simp only [put, app, Z, ae, zE, zS, D])
   refine ai ?_
   refine hK9 _ ?_; clear hK9; refine ad [0, 3, 4, 5, 17] ?_; simp only [U, lkp, zE, reduceCtorEq, E, Y, D]
   refine aF ?_
   refine ⟨by first | exact .inl rfl | exact .inr rfl, _, rfl, ?_⟩; simp only [fzV, fz1, fzC, List.map_cons, List.map_nil, U, lkp, zE, reduceCtorEq, E, Y, D, List.length_map]
   refine VLE.of_eq ?_
   refine congrArg (fun n => AV.one (AC.int IntKind.i64 n)) ?_
   rw [← hpk]
end Go.Proofs.Ytdkgcbhbpdbmnaa
namespace Go.Proofs.Ytdkgcbhbpdbmnaa
open Go Go.AV
open Nat renaming reduceEqDiff → E, reduceAdd → D, reduceLeDiff → J, reduceLT → S, reduceMul → M, reduceSub → O
open List renaming set_cons_zero → aq, set_cons_succ → ao
set_option maxRecDepth 100000 in
set_option maxHeartbeats 1500000 in
theorem p8 (a b : Dfa) (most : Nat) (ha : DOK a) (hb : DOK b) (hi : a.inp = b.inp) : bB Try.prog 49 [a.av, b.av, .one (.int .i64 (most : Int))] (.tup [.one (.list (.pair (.int .i64) (.pair (.int .i64) .unit)) (List.map ed ((ez (ca a b) a.inp.toNat most (a.nx.length * b.nx.length + 1) 0 [((a.st, b.st), [])]).map Prod.fst))), .one (.list (.list (.int .i64)) ((ez (ca a b) a.inp.toNat most (a.nx.length * b.nx.length + 1) 0 [((a.st, b.st), [])]).map Prod.snd))]) := by
 have a1 := ha.i1; have a2 := ha.i2; have a4 := ha.n2; have b4 := hb.n2; have hm9 := fi a4 b4
 refine aQ Try.func49 rfl (by kernel_rfl) (Nat.le_of_ble_eq_true rfl) rfl fun C hP hN hB => ?_
 replace hN : C.N = 87 := hN
 simp only [Y, D]
 refine ab fun K1 hK1 => ?_
 refine ah hP hN rfl ?_
 iterate 4 (refine aa rfl fun K0 V => ?_; simp only [zE, op1, ev, lkp, ag, af, bV, ak, reduceCtorEq, E, D, J, S, M, O, Try.el22, Try.el89, Try.st25, Try.td22, Try.td25, Try.td89, Dfa.av, List.length_map]; (repeat refine And.intro (by first | omega | assumption | exact rfl) ?_); refine V _ ?_; clear V K0; simp only [put, app, Z, ae, zE, zS, D])
 refine ai ?_
 refine hK1 _ ?_; clear hK1; refine ad [0, 1, 2, 3, 4, 6, 7] ?_; simp only [U, lkp, zE, reduceCtorEq, E, Y, D]
 refine ab fun K2 hK2 => ?_
 refine ah hP hN rfl ?_
 iterate 5 (refine aa rfl fun K0 V => ?_; simp only [zE, op1, ev, lkp, ag, af, aw, ay, Nat.mul_one, au, ax, acs, Ty.dflt, zG, am, bJ, aY, aN, ak, reduceCtorEq, E, D, J, S, M, O, Try.fl93, Try.st25, Try.st93, Try.td1, Try.td25, Try.td3, Try.td93, Dfa.av, List.length_map]; (repeat refine And.intro (by first | omega | assumption | exact rfl) ?_); (first | refine V _ ?_ | refine Or.inl (V _ ?_)); clear V K0; simp only [put, app, Z, ae, zE, zS, D])
 (refine aa rfl fun K0 V => ?_; simp only [zE, op1, ev, lkp, ag, af, ba, aY, bS, rep, aK, aN, ak, Ty.size, reduceCtorEq, E, D, J, S, M, O, Try.el89, Try.td1, Try.td89, Dfa.av, List.length_map]; (repeat refine And.intro (by first | omega | assumption | exact rfl) ?_); refine Or.inr (Or.inl (V _ ?_)); clear V K0; simp only [put, app, Z, ae, zE, zS, D])
 (refine aa rfl fun K0 V => ?_; simp only [zE, op1, ev, lkp, ag, af, ev, reduceCtorEq, E, D, J, S, M, O, Try.el89, Try.td89, Dfa.av, List.length_map]; refine V _ ?_; clear V K0; simp only [put, app, Z, ae, zE, zS, D])
 refine ai ?_
 refine hK2 _ ?_; clear hK2; refine ad [0, 1, 2, 3, 4, 6, 7, 8] ?_; simp only [U, lkp, zE, reduceCtorEq, E, Y, D]
 refine ab fun K3 hK3 => ?_
 refine ah hP hN rfl ?_
 (refine aa rfl fun K0 V => ?_; simp only [zE, op1, ev, lkp, ag, af, ba, aY, bS, rep, aK, aN, ak, Ty.size, reduceCtorEq, E, D, J, S, M, O, Try.el22, Try.td1, Try.td22, Dfa.av, List.length_map]; (repeat refine And.intro (by first | omega | assumption | exact rfl) ?_); refine Or.inr (Or.inl (V _ ?_)); clear V K0; simp only [put, app, Z, ae, zE, zS, D])
 (refine aa rfl fun K0 V => ?_; simp only [zE, op1, ev, lkp, ag, af, ev, reduceCtorEq, E, D, J, S, M, O, Try.el22, Try.td22, Dfa.av, List.length_map]; refine V _ ?_; clear V K0; simp only [put, app, Z, ae, zE, zS, D])
 refine ai ?_
 refine hK3 _ ?_; clear hK3; refine ad [0, 1, 2, 3, 4, 6, 7, 8, 9] ?_; simp only [U, lkp, zE, reduceCtorEq, E, Y, D]
 refine ab fun K4 hK4 => ?_
 refine ab fun K5 hK5 => ?_
 refine ah hP hN rfl ?_
 (refine aa rfl fun K0 V => ?_; simp only [zE, op1, ev, lkp, ag, af, ev, reduceCtorEq, E, D, J, S, M, O, Try.td3, Dfa.av, List.length_map]; refine V _ ?_; clear V K0; simp only [put, app, Z, ae, zE, zS, D])
 refine ai ?_
 refine hK5 _ ?_; clear hK5; refine ad [0, 1, 2, 3, 4, 6, 7, 8, 9, 10] ?_; simp only [U, lkp, zE, reduceCtorEq, E, Y, D]
 refine aM ?_
 refine bp (fun n6 s6 => ∃ (k : Nat) (l : List W3) (v : Nat), (DW a.nx.length b.nx.length l) ∧ (ez (ca a b) a.inp.toNat most (a.nx.length * b.nx.length + 1 - k) k l = (ez (ca a b) a.inp.toNat most (a.nx.length * b.nx.length + 1) 0 [((a.st, b.st), [])])) ∧ (k ≤ l.length) ∧ n6 = a.nx.length * b.nx.length + 1 - k ∧ s6 = { env := [(2, .one (.int .i64 (most : Int))), (3, .one (.ptr 0 0 0 0)), (4, .one (.ptr 1 0 0 0)), (6, .one .nils), (7, .one .nils), (8, .one (.row 2 v)), (9, .one (.row 3 v)), (10, .one (.int .i64 (k : Int)))], L := [.vars 25 [.int .i64 a.inp, .int .i64 a.st, .list (.list (.int .i64)) a.nx, .list .bool a.acc], .vars 25 [.int .i64 b.inp, .int .i64 b.st, .list (.list (.int .i64)) b.nx, .list .bool b.acc], .row (.pair (.int .i64) (.pair (.int .i64) .unit)) 93 v (List.map ed (l.map Prod.fst)), .row (.list (.int .i64)) 26 v (l.map Prod.snd)] }) ?_ ?_
 ·exact ⟨_, _, aL [2, 3, 4, 6, 7, 8, 9, 10], 0, [((a.st, b.st), [])], 0, ia (jc ha hb), rfl, by simp, rfl, rfl⟩
 ·rintro n6 s6 ⟨k, l, v, hdw, hrun, hk, rfl, rfl⟩
  refine ab fun K7 hK7 => ?_
  refine ab fun K8 hK8 => ?_
  refine ah hP hN rfl ?_
  iterate 4 (refine aa rfl fun K0 V => ?_; simp only [zE, op1, ev, lkp, ag, af, aG, bo, bc, aX, aZ, bl, Nat.div_one, aO, b0, Ty.size, aK, dite_true, aC, aE, aD, ar, aA, aP, reduceCtorEq, E, D, J, S, M, O, Try.el89, Try.td3, Try.td4, Try.td89, Dfa.av, List.length_map]; (repeat refine And.intro (by first | omega | assumption | exact rfl) ?_); (first | refine V _ ?_ | refine Or.inl (V _ ?_)); clear V K0; simp only [put, app, Z, ae, zE, zS, D])
  (refine aa rfl fun K0 V => ?_; simp only [zE, op1, ev, lkp, ag, af, ev, reduceCtorEq, E, D, J, S, M, O, Try.td4, Dfa.av, List.length_map]; refine V _ ?_; clear V K0; simp only [put, app, Z, ae, zE, zS, D])
  refine' aU (want := true) 4 rfl (m := 24) (by simp only [U, lkp, zE, reduceCtorEq, E, Y, D]; exact rfl) (by kernel_rfl) rfl rfl rfl rfl rfl (fun hg9 => ?a9) ?b9 ?c9
  case a9 =>
   have hq9 := hg9; (try simp only [zB, reduceCtorEq] at hg9); simp only [List.take_succ_cons, List.take_zero, List.cons_append, List.nil_append]
   (refine aI rfl fun K0 V => ?_; simp only [zE, op1, ev, lkp, ag, af, ev, reduceCtorEq, E, D, J, S, M, O, Try.el89, Try.td89, Dfa.av, List.length_map]; refine V _ ?_; clear V K0; simp only [put, app, Z, ae, zE, zS, D])
   (refine aI rfl fun K0 V => ?_; simp only [zE, op1, ev, lkp, ag, af, aG, bo, bc, aX, aZ, bl, Nat.div_one, aO, b0, Ty.size, aK, dite_true, reduceCtorEq, E, D, J, S, M, O, Try.el89, Try.td3, Try.td89, Dfa.av, List.length_map]; (repeat refine And.intro (by first | omega | assumption | exact rfl) ?_); (first | refine V _ ?_ | refine Or.inl (V _ ?_)); clear V K0; simp only [put, app, Z, ae, zE, zS, D])
   (refine aI rfl fun K0 V => ?_; simp only [zE, op1, ev, lkp, ag, af, ev, reduceCtorEq, E, D, J, S, M, O, Try.td3, Dfa.av, List.length_map]; refine V _ ?_; clear V K0; simp only [put, app, Z, ae, zE, zS, D])
   (refine aI rfl fun K0 V => ?_; simp only [zE, op1, ev, lkp, ag, af, aC, aE, aD, ar, aA, aP, reduceCtorEq, E, D, J, S, M, O, Try.td3, Try.td4, Dfa.av, List.length_map]; (repeat refine And.intro (by first | omega | assumption | exact rfl) ?_); refine V _ ?_; clear V K0; simp only [put, app, Z, ae, zE, zS, D])
   (refine aa rfl fun K0 V => ?_; simp only [zE, op1, ev, lkp, ag, af, bn, reduceCtorEq, E, D, J, S, M, O, Try.td4, Dfa.av, List.length_map]; refine V _ ?_; clear V K0; simp only [put, app, Z, ae, zE, zS, D])
   refine ai ?_
   refine ⟨by simp only [U, lkp, zE, reduceCtorEq, E, Y, D]; exact rfl, rfl, ?_, rfl⟩; (repeat refine aV rfl ?_); exact br (by exact rfl) hq9
  case b9 => exact bq (by first | rfl | (simp [bT]; done) | decide)
  simp only [bk, bb]
  refine ai ?_
  refine hK8 _ ?_; clear hK8; refine ad [2, 3, 4, 6, 7, 8, 9, 10, 29] ?_; simp only [U, lkp, zE, reduceCtorEq, E, Y, D]
  refine aB (by simp only [ev, U, lkp, zE, reduceCtorEq, E, Y, D]; exact rfl) (fun hc10 => ?_) (fun hc10 => ?_)
  ·(try simp only [zB, reduceCtorEq] at hc10)
   refine aJ ?_
   refine hK7 _ ?_; clear hK7; refine ad [2, 3, 4, 6, 7, 8, 9, 10, 29] ?_; simp only [U, lkp, zE, reduceCtorEq, E, Y, D]
   refine ab fun K11 hK11 => ?_
   refine aM ?_
   refine ab fun K12 hK12 => ?_
   refine ah hP hN rfl ?_
   (refine aa rfl fun K0 V => ?_; simp only [zE, op1, ev, lkp, ag, af, ev, reduceCtorEq, E, D, J, S, M, O, Try.td3, Dfa.av, List.length_map]; refine V _ ?_; clear V K0; simp only [put, app, Z, ae, zE, zS, D])
   refine ai ?_
   refine hK12 _ ?_; clear hK12; refine ad [2, 3, 4, 6, 7, 8, 9, 10, 11, 29] ?_; simp only [U, lkp, zE, reduceCtorEq, E, Y, D]
   refine aM ?_
   refine bp (fun n13 s13 => ∃ (x : Nat) (v2 : Nat), ((x : Int) ≤ a.inp) ∧ (DW a.nx.length b.nx.length (bM (ca a b) (l.getD k w30) l x)) ∧ n13 = a.inp.toNat - x ∧ s13 = { env := [(2, .one (.int .i64 (most : Int))), (3, .one (.ptr 0 0 0 0)), (4, .one (.ptr 1 0 0 0)), (6, .one .nils), (7, .one .nils), (8, .one (.row 2 v2)), (9, .one (.row 3 v2)), (10, .one (.int .i64 (k : Int))), (11, .one (.int .i64 (x : Int)))], L := [.vars 25 [.int .i64 a.inp, .int .i64 a.st, .list (.list (.int .i64)) a.nx, .list .bool a.acc], .vars 25 [.int .i64 b.inp, .int .i64 b.st, .list (.list (.int .i64)) b.nx, .list .bool b.acc], .row (.pair (.int .i64) (.pair (.int .i64) .unit)) 93 v2 (List.map ed ((bM (ca a b) (l.getD k w30) l x).map Prod.fst)), .row (.list (.int .i64)) 26 v2 ((bM (ca a b) (l.getD k w30) l x).map Prod.snd)] }) ?_ ?_
   ·exact ⟨_, _, aL [2, 3, 4, 6, 7, 8, 9, 10, 11], 0, v, by omega, hdw, rfl, rfl⟩
   ·rintro n13 s13 ⟨x, v2, hx, hdc, rfl, rfl⟩
    refine ab fun K14 hK14 => ?_
    refine ab fun K15 hK15 => ?_
    refine ah hP hN rfl ?_
    iterate 4 (refine aa rfl fun K0 V => ?_; simp only [zE, op1, ev, lkp, ag, af, aw, ay, Nat.mul_one, au, ax, acs, Ty.dflt, zG, am, aC, aE, aD, ar, aA, aP, reduceCtorEq, E, D, J, S, M, O, Try.st25, Try.td25, Try.td3, Try.td4, Dfa.av, List.length_map]; (repeat refine And.intro (by first | omega | assumption | exact rfl) ?_); refine V _ ?_; clear V K0; simp only [put, app, Z, ae, zE, zS, D])
    refine ai ?_
    refine hK15 _ ?_; clear hK15; refine ad [2, 3, 4, 6, 7, 8, 9, 10, 11, 35] ?_; simp only [U, lkp, zE, reduceCtorEq, E, Y, D]
    refine aB (by simp only [ev, U, lkp, zE, reduceCtorEq, E, Y, D]; exact rfl) (fun hc16 => ?_) (fun hc16 => ?_)
    ·(try simp only [zB, reduceCtorEq] at hc16)
     refine aJ ?_
     refine hK14 _ ?_; clear hK14; refine ad [2, 3, 4, 6, 7, 8, 9, 10, 11, 35] ?_; simp only [U, lkp, zE, reduceCtorEq, E, Y, D]
     refine ab fun K17 hK17 => ?_
     refine aM ?_
     refine ab fun K18 hK18 => ?_
     refine ge ?_; simp only [List.cons_append, List.append_assoc, List.nil_append]
     have hkl : k < l.length := by omega
     have hge := hZ (ca a b) (l.getD k w30) l x
     have hgi : ∀ d, (List.map ed ((bM (ca a b) (l.getD k w30) l x).map Prod.fst)).getD k d = (((l.getD k w30).1.1, ((l.getD k w30).1.2, ()))) := fun d => by rw [kP (by omega), fP _ _ x hkl]
     have hwi : ∀ z, ((bM (ca a b) (l.getD k w30) l x).map Prod.snd).getD k z = (l.getD k w30).2 := fun z => by rw [nX (by omega), fP _ _ x hkl]
     have hre := hdw.rg _ (da hkl)
     obtain ⟨hr1, hr2⟩ := id hre
     have hra := ha.rli hr1; have hsa : ((a.nx.getD (l.getD k w30).1.1.toNat []).length : Int) = a.inp := hra; have hrb := hb.rli hr2; have hsb : ((b.nx.getD (l.getD k w30).1.2.toNat []).length : Int) = b.inp := hrb; have hcl := hdc.le; have hwl := hdw.wl _ (da hkl); have hdl := hdw.le
     refine bQ hP hN Try.mixed rfl ?_
     iterate 25 (refine aa rfl fun K0 V => ?_; simp only [zE, op1, ev, lkp, ag, af, aw, ay, Nat.mul_one, au, ax, acs, Ty.dflt, zG, am, aH, Ty.size, ne_eq, not_false_eq_true, Int.natCast_one, Int.mul_one, bJ, aY, aN, ak, reduceCtorEq, E, D, J, S, M, O, Try.el22, Try.el26, Try.el89, Try.fl93, Try.st25, Try.st93, Try.td1, Try.td2, Try.td22, Try.td25, Try.td26, Try.td3, Try.td89, Try.td93, Dfa.av, List.length_map, hgi]; (repeat refine And.intro (by first | omega | assumption | exact rfl) ?_); (first | refine V _ ?_ | refine Or.inl (V _ ?_)); clear V K0; simp only [put, app, Z, ae, zE, zS, D])
     (refine aa rfl fun K0 V => ?_; simp only [zE, op1, ev, lkp, ag, af, bE, reduceCtorEq, E, D, J, S, M, O, Try.fl93, Try.st93, Try.td93, Dfa.av, List.length_map, hgi]; refine Or.inr (Or.inl ⟨4, ?_, (.pair (.int .i64) (.pair (.int .i64) .unit)), (0, (0, ())), ?_⟩); (exact rfl); (repeat refine And.intro (by first | rfl | decide) ?_); refine V _ ?_; clear V K0; simp only [put, app, Z, ae, zE, zS, D])
     (refine aa rfl fun K0 V => ?_; simp only [zE, op1, ev, lkp, ag, af, be, Nat.mul_one, ak, aN, aK, acs, Ty.size, Ty.dflt, zG, reduceCtorEq, E, D, J, S, M, O, Try.fl93, Try.st93, Try.td93, Dfa.av, List.length_map, hgi]; (repeat refine And.intro (by first | omega | assumption | exact rfl) ?_); refine V _ ?_; clear V K0; simp only [put, app, Z, ae, zE, zS, D])
     refine ai ?_
     refine ⟨by kernel_rfl, ?_⟩
     refine hK18 _ ?_; clear hK18; refine ad [2, 3, 4, 6, 7, 8, 9, 10, 11, 12, 35] ?_; simp only [U, lkp, zE, reduceCtorEq, E, Y, D]
     refine ab fun K19 hK19 => ?_
     refine ah hP hN rfl ?_
     iterate 2 (refine aa rfl fun K0 V => ?_; simp only [zE, op1, ev, lkp, ag, af, ay, Nat.mul_one, au, ax, acs, Ty.dflt, zG, am, reduceCtorEq, E, D, J, S, M, O, Try.el89, Try.fl93, Try.st93, Try.td89, Try.td93, Dfa.av, List.length_map]; (repeat refine And.intro (by first | omega | assumption | exact rfl) ?_); refine V _ ?_; clear V K0; simp only [put, app, Z, ae, zE, zS, D])
     refine aa rfl fun K0 V => ?_
     refine aR (h := iV (args := [.one (.row 2 v2), .agg [.int .i64 (ca a b (l.getD k w30).1 x).1, .int .i64 (ca a b (l.getD k w30).1 x).2]]) (by simp [fzV, fz1, fzC]) rfl (oq ((bM (ca a b) (l.getD k w30) l x).map Prod.fst) (ca a b (l.getD k w30).1 x) (by rw [List.length_map]; omega)) rfl) rfl rfl (by first | exact rfl | (simp only [ev, U, lkp, zE, reduceCtorEq, E, Y, D]; exact rfl)) (by simp only [zE, zG, op1, ev, lkp, ag, af, ak, acs, aW, mv1, mvC, Ty.dflt, reduceCtorEq, E, D, J, S, M, O, Dfa.av, List.length_map, List.getD_cons_zero, ca, Dfa.dl, Dfa.row, Int.toNat_natCast]) ?_
     refine V _ ?_; clear V K0; simp only [put, app, Z, ae, zE, zS, D]
     iterate 3 (refine aa rfl fun K0 V => ?_; simp only [zE, op1, ev, lkp, ag, af, aG, bo, bc, aX, aZ, bl, Nat.div_one, aO, b0, Ty.size, aK, dite_true, aC, aE, aD, ar, aA, aP, reduceCtorEq, E, D, J, S, M, O, Try.el89, Try.td3, Try.td4, Try.td89, Dfa.av, List.length_map]; (repeat refine And.intro (by first | omega | assumption | exact rfl) ?_); (first | refine V _ ?_ | refine Or.inl (V _ ?_)); clear V K0; simp only [put, app, Z, ae, zE, zS, D])
     refine ai ?_
     refine hK19 _ ?_; clear hK19; refine ad [2, 3, 4, 6, 7, 8, 9, 10, 11, 12, 35, 68] ?_; simp only [U, lkp, zE, reduceCtorEq, E, Y, D]
     refine aB (by simp only [ev, U, lkp, zE, reduceCtorEq, E, Y, D]; exact rfl) (fun hc20 => ?_) (fun hc20 => ?_)
     ·(try simp only [zB, reduceCtorEq] at hc20)
      have hnin : (ca a b (l.getD k w30).1 x) ∉ (bM (ca a b) (l.getD k w30) l x).map Prod.fst := fun hin => by have h8 := gc hin; rw [List.length_map] at h8; have h9 := hc20; omega
      refine ab fun K21 hK21 => ?_
      refine ah hP hN rfl ?_
      iterate 5 (refine aa rfl fun K0 V => ?_; simp only [zE, op1, ev, lkp, ag, af, ay, Nat.mul_one, au, ax, acs, Ty.dflt, zG, am, ba, aY, bS, rep, aK, aN, ak, Ty.size, aG, bo, bc, aX, aZ, bl, Nat.div_one, aO, b0, dite_true, reduceCtorEq, E, D, J, S, M, O, Try.el89, Try.fl93, Try.st93, Try.td1, Try.td89, Try.td93, Dfa.av, List.length_map]; (repeat refine And.intro (by first | omega | assumption | exact rfl) ?_); (first | refine V _ ?_ | refine Or.inl (V _ ?_)); clear V K0; simp only [put, app, Z, ae, zE, zS, D])
      refine ai ?_
      refine hK21 _ ?_; clear hK21; refine ad [2, 3, 4, 6, 7, 8, 9, 10, 11, 12, 35, 68] ?_; simp only [U, lkp, zE, reduceCtorEq, E, Y, D]
      refine ah hP hN rfl ?_
      (refine aa rfl fun K0 V => ?_; simp only [zE, op1, ev, lkp, ag, af, ev, reduceCtorEq, E, D, J, S, M, O, Try.el22, Try.td22, Dfa.av, List.length_map, hwi]; refine V _ ?_; clear V K0; simp only [put, app, Z, ae, zE, zS, D])
      (refine aa rfl fun K0 V => ?_; simp only [zE, op1, ev, lkp, ag, af, ba, aY, bS, rep, aK, aN, ak, Ty.size, reduceCtorEq, E, D, J, S, M, O, Try.el26, Try.td26, Dfa.av, List.length_map, hwi]; (repeat refine And.intro (by first | omega | assumption | exact rfl) ?_); refine Or.inr (Or.inl (V _ ?_)); clear V K0; simp only [put, app, Z, ae, zE, zS, D])
      iterate 7 (refine aa rfl fun K0 V => ?_; simp only [zE, op1, ev, lkp, ag, af, aH, zG, Ty.dflt, Ty.size, Nat.mul_one, ne_eq, not_false_eq_true, Int.natCast_one, Int.mul_one, ay, au, ax, acs, am, aG, bo, bc, aX, aZ, bl, Nat.div_one, aO, b0, aK, dite_true, ba, aY, bS, rep, aN, ak, reduceCtorEq, E, D, J, S, M, O, Try.el22, Try.el26, Try.td1, Try.td22, Try.td26, Try.td3, Dfa.av, List.length_map, hwi]; (repeat refine And.intro (by first | omega | assumption | exact rfl) ?_); (first | refine V _ ?_ | refine Or.inl (V _ ?_)); clear V K0; simp only [put, app, Z, ae, zE, zS, D])
      (refine aa rfl fun K0 V => ?_; simp only [zE, op1, ev, lkp, ag, af, aG, bo, bc, aX, aZ, bl, Nat.div_one, aO, b0, Ty.size, aK, dite_true, reduceCtorEq, E, D, J, S, M, O, Try.el26, Try.td26, Dfa.av, List.length_map, hwi]; (repeat refine And.intro (by first | omega | assumption | exact rfl) ?_); refine Or.inr (V _ ?_); clear V K0; simp only [put, app, Z, ae, zE, zS, D])
      iterate 3 (refine aa rfl fun K0 V => ?_; simp only [zE, op1, ev, lkp, ag, af, ba, aY, bS, rep, aK, aN, ak, Ty.size, aG, bo, bc, aX, aZ, bl, Nat.div_one, aO, b0, dite_true, reduceCtorEq, E, D, J, S, M, O, Try.el22, Try.td1, Try.td22, Dfa.av, List.length_map, hwi]; (repeat refine And.intro (by first | omega | assumption | exact rfl) ?_); (first | refine V _ ?_ | refine Or.inl (V _ ?_)); clear V K0; simp only [put, app, Z, ae, zE, zS, D])
      refine ai ?_
      refine hK17 _ ?_; clear hK17; refine ad [2, 3, 4, 6, 7, 8, 9, 10, 11, 12, 35, 68] ?_; simp only [U, lkp, zE, reduceCtorEq, E, Y, D]
      refine ad [2, 3, 4, 6, 7, 8, 9, 10, 11] ?_; simp only [U, lkp, zE, reduceCtorEq, E]
      first | (refine d5 (L1 := [_, _, _, _, _]) rfl hB rfl rfl ?_; refine d5 (L1 := [_, _, _, _]) rfl hB rfl rfl ?_) | refine d5 (L1 := [_, _, _, _]) rfl hB rfl rfl ?_
      refine ah hP hN rfl ?_
      iterate 3 (refine aa rfl fun K0 V => ?_; simp only [zE, op1, ev, lkp, ag, af, aC, aE, aD, ar, aA, aP, reduceCtorEq, E, D, J, S, M, O, Try.td3, Dfa.av, List.length_map]; (repeat refine And.intro (by first | omega | assumption | exact rfl) ?_); refine V _ ?_; clear V K0; simp only [put, app, Z, ae, zE, zS, D])
      refine ai ?_
      first
      | (have hs9 : bM (ca a b) (l.getD k w30) l (x + 1) = (bM (ca a b) (l.getD k w30) l x) := by rw [cd, eJ hin]
         refine ⟨_, _, ?_, aL [2, 3, 4, 6, 7, 8, 9, 10, 11], x + 1, v2, by omega, by rw [hs9]; exact hdc, rfl, ?_⟩
         · omega
         · rw [hs9]; rfl)
      | (have hs9 : bM (ca a b) (l.getD k w30) l (x + 1) = (bM (ca a b) (l.getD k w30) l x) ++ [((ca a b (l.getD k w30).1 x), (l.getD k w30).2 ++ [(x : Int)])] := by rw [cd, dy hnin]
         have hm8 : (l.getD k w30) ∈ (bM (ca a b) (l.getD k w30) l x) := by obtain ⟨k8, h8⟩ := d7 (ca a b) (l.getD k w30) l x; rw [h8]; exact List.mem_append.2 (.inl (da hkl))
         refine ⟨_, _, ?_, aL [2, 3, 4, 6, 7, 8, 9, 10, 11], x + 1, v2 + 1, by omega, by rw [cd]; exact hdc.step (fT ha hb hi (n := a.inp.toNat) (by omega)) hm8 (by omega), rfl, ?_⟩
         · omega
         · rw [hs9, List.map_append, List.map_append, List.map_append]; rfl)
     ·(try simp only [zB, reduceCtorEq] at hc20)
      have hin : (ca a b (l.getD k w30).1 x) ∈ (bM (ca a b) (l.getD k w30) l x).map Prod.fst := by
        by_cases hin : (ca a b (l.getD k w30).1 x) ∈ (bM (ca a b) (l.getD k w30) l x).map Prod.fst
        · exact hin
        · exfalso; have h8 := gU hin; rw [List.length_map] at h8; have h9 := hc20; omega
      refine aJ ?_
      refine hK17 _ ?_; clear hK17; refine ad [2, 3, 4, 6, 7, 8, 9, 10, 11, 12, 35, 68] ?_; simp only [U, lkp, zE, reduceCtorEq, E, Y, D]
      refine ad [2, 3, 4, 6, 7, 8, 9, 10, 11] ?_; simp only [U, lkp, zE, reduceCtorEq, E]
      first | (refine d5 (L1 := [_, _, _, _, _]) rfl hB rfl rfl ?_; refine d5 (L1 := [_, _, _, _]) rfl hB rfl rfl ?_) | refine d5 (L1 := [_, _, _, _]) rfl hB rfl rfl ?_
      refine ah hP hN rfl ?_
      iterate 3 (refine aa rfl fun K0 V => ?_; simp only [zE, op1, ev, lkp, ag, af, aC, aE, aD, ar, aA, aP, reduceCtorEq, E, D, J, S, M, O, Try.td3, Dfa.av, List.length_map]; (repeat refine And.intro (by first | omega | assumption | exact rfl) ?_); refine V _ ?_; clear V K0; simp only [put, app, Z, ae, zE, zS, D])
      refine ai ?_
      first
      | (have hs9 : bM (ca a b) (l.getD k w30) l (x + 1) = (bM (ca a b) (l.getD k w30) l x) := by rw [cd, eJ hin]
         refine ⟨_, _, ?_, aL [2, 3, 4, 6, 7, 8, 9, 10, 11], x + 1, v2, by omega, by rw [hs9]; exact hdc, rfl, ?_⟩
         · omega
         · rw [hs9]; rfl)
      | (have hs9 : bM (ca a b) (l.getD k w30) l (x + 1) = (bM (ca a b) (l.getD k w30) l x) ++ [((ca a b (l.getD k w30).1 x), (l.getD k w30).2 ++ [(x : Int)])] := by rw [cd, dy hnin]
         have hm8 : (l.getD k w30) ∈ (bM (ca a b) (l.getD k w30) l x) := by obtain ⟨k8, h8⟩ := d7 (ca a b) (l.getD k w30) l x; rw [h8]; exact List.mem_append.2 (.inl (da hkl))
         refine ⟨_, _, ?_, aL [2, 3, 4, 6, 7, 8, 9, 10, 11], x + 1, v2 + 1, by omega, by rw [cd]; exact hdc.step (fT ha hb hi (n := a.inp.toNat) (by omega)) hm8 (by omega), rfl, ?_⟩
         · omega
         · rw [hs9, List.map_append, List.map_append, List.map_append]; rfl)
    ·(try simp only [zB, reduceCtorEq] at hc16)
     refine bm ?_
     refine hK11 _ ?_; clear hK11; refine ad [2, 3, 4, 6, 7, 8, 9, 10, 11, 35] ?_; simp only [U, lkp, zE, reduceCtorEq, E, Y, D]
     have hdl := hdw.le
     refine ah hP hN rfl ?_
     iterate 3 (refine aa rfl fun K0 V => ?_; simp only [zE, op1, ev, lkp, ag, af, aC, aE, aD, ar, aA, aP, reduceCtorEq, E, D, J, S, M, O, Try.td3, Dfa.av, List.length_map]; (repeat refine And.intro (by first | omega | assumption | exact rfl) ?_); refine V _ ?_; clear V K0; simp only [put, app, Z, ae, zE, zS, D])
     refine ai ?_
     have hxn : x = a.inp.toNat := by omega
     have hkl : k < l.length := by omega
     have hge9 := hZ (ca a b) (l.getD k w30) l x
     have hdl := hdw.le
     refine ⟨_, _, ?_, aL [2, 3, 4, 6, 7, 8, 9, 10], k + 1, (bM (ca a b) (l.getD k w30) l x), v2, hdc, ?_, by omega, rfl, rfl⟩
     · omega
     · rw [← hrun, show a.nx.length * b.nx.length + 1 - k = a.nx.length * b.nx.length + 1 - (k + 1) + 1 by omega, f8 hkl (by omega), ← hxn]
  ·(try simp only [zB, reduceCtorEq] at hc10)
   refine bm ?_
   refine hK4 _ ?_; clear hK4; refine ad [2, 3, 4, 6, 7, 8, 9, 10, 29] ?_; simp only [U, lkp, zE, reduceCtorEq, E, Y, D]
   refine ab fun K22 hK22 => ?_
   refine ah hP hN rfl ?_
   iterate 4 (refine aa rfl fun K0 V => ?_; simp only [zE, op1, ev, lkp, ag, af, ev, reduceCtorEq, E, D, J, S, M, O, Try.el22, Try.el89, Try.td22, Try.td89, Dfa.av, List.length_map]; refine V _ ?_; clear V K0; simp only [put, app, Z, ae, zE, zS, D])
   refine ai ?_
   refine hK22 _ ?_; clear hK22; refine ad [2, 3, 4, 6, 7, 8, 9, 10, 29] ?_; simp only [U, lkp, zE, reduceCtorEq, E, Y, D]
   refine aF ?_
   refine ⟨by first | exact .inl rfl | exact .inr rfl, _, rfl, ?_⟩; simp only [fzV, fz1, fzC, List.map_cons, List.map_nil, U, lkp, zE, reduceCtorEq, E, Y, D, Dfa.av, List.length_map]
   refine VLE.of_eq ?_
   rw [← hrun, gb (by omega)]
end Go.Proofs.Ytdkgcbhbpdbmnaa
namespace Go.Proofs.Ytdkgcbhbpdbmnaa
open Go Go.AV
open Nat renaming reduceEqDiff → E, reduceAdd → D, reduceLeDiff → J, reduceLT → S, reduceMul → M, reduceSub → O
open List renaming set_cons_zero → aq, set_cons_succ → ao
set_option maxRecDepth 100000 in
theorem oJ (d : Dfa) : bB Try.prog 17 [d.av] (.tup [.one (.list (.int .i64) (dE d)), .one (.bool (ex d)), .one (.int .i64 (bf d))]) := by
 refine aQ Try.func17 rfl (by kernel_rfl) (Nat.le_of_ble_eq_true rfl) rfl fun C hP hN hB => ?_
 replace hN : C.N = 38 := hN
 simp only [Y, D]
 refine ab fun K1 hK1 => ?_
 refine ah hP hN rfl ?_
 iterate 4 (refine aa rfl fun K0 V => ?_; simp only [zE, op1, ev, lkp, ag, af, bV, ak, reduceCtorEq, E, D, J, S, M, O, Try.el26, Try.st25, Try.td25, Try.td26, Try.td3, Try.td4, Dfa.av, List.length_map]; (repeat refine And.intro (by first | omega | assumption | exact rfl) ?_); refine V _ ?_; clear V K0; simp only [put, app, Z, ae, zE, zS, D])
 refine ai ?_
 refine hK1 _ ?_; clear hK1; refine ad [0, 1, 2, 3, 4] ?_; simp only [U, lkp, zE, reduceCtorEq, E, Y, D]
 refine ab fun K2 hK2 => ?_
 refine ab fun K3 hK3 => ?_
 refine ah hP hN rfl ?_
 (refine aa rfl fun K0 V => ?_; simp only [zE, op1, ev, lkp, ag, af, ay, Nat.mul_one, au, ax, acs, Ty.dflt, zG, am, reduceCtorEq, E, D, J, S, M, O, Try.st25, Try.td25, Dfa.av, List.length_map]; (repeat refine And.intro (by first | omega | assumption | exact rfl) ?_); refine V _ ?_; clear V K0; simp only [put, app, Z, ae, zE, zS, D])
 refine aa rfl fun K0 V => ?_
 refine aR (h := az (dg d)) rfl rfl (by first | exact rfl | (simp only [ev, U, lkp, zE, reduceCtorEq, E, Y, D]; exact rfl)) (by simp only [zE, zG, op1, ev, lkp, ag, af, ak, acs, aW, mv1, mvC, Ty.dflt, reduceCtorEq, E, D, J, S, M, O, Dfa.av, List.length_map]) ?_
 refine V _ ?_; clear V K0; simp only [put, app, Z, ae, zE, zS, D]
 (refine aa rfl fun K0 V => ?_; simp only [zE, op1, ev, lkp, ag, af, aC, aE, aD, ar, aA, aP, reduceCtorEq, E, D, J, S, M, O, Try.td3, Try.td4, Dfa.av, List.length_map]; (repeat refine And.intro (by first | omega | assumption | exact rfl) ?_); refine V _ ?_; clear V K0; simp only [put, app, Z, ae, zE, zS, D])
 refine ai ?_
 refine hK3 _ ?_; clear hK3; refine ad [0, 1, 2, 3, 4, 10] ?_; simp only [U, lkp, zE, reduceCtorEq, E, Y, D]
 refine aB (by simp only [ev, U, lkp, zE, reduceCtorEq, E, Y, D]; exact rfl) (fun hc4 => ?_) (fun hc4 => ?_)
 ·(try simp only [zB, reduceCtorEq] at hc4)
  refine ab fun K5 hK5 => ?_
  refine ah hP hN rfl ?_
  (refine aa rfl fun K0 V => ?_; simp only [zE, op1, ev, lkp, ag, af, ay, Nat.mul_one, au, ax, acs, Ty.dflt, zG, am, reduceCtorEq, E, D, J, S, M, O, Try.st25, Try.td25, Dfa.av, List.length_map]; (repeat refine And.intro (by first | omega | assumption | exact rfl) ?_); refine V _ ?_; clear V K0; simp only [put, app, Z, ae, zE, zS, D])
  refine aa rfl fun K0 V => ?_
  refine aR (h := az (dg d)) rfl rfl (by first | exact rfl | (simp only [ev, U, lkp, zE, reduceCtorEq, E, Y, D]; exact rfl)) (by simp only [zE, zG, op1, ev, lkp, ag, af, ak, acs, aW, mv1, mvC, Ty.dflt, reduceCtorEq, E, D, J, S, M, O, Dfa.av, List.length_map]) ?_
  refine V _ ?_; clear V K0; simp only [put, app, Z, ae, zE, zS, D]
  iterate 3 (refine aa rfl fun K0 V => ?_; simp only [zE, op1, ev, lkp, ag, af, ev, reduceCtorEq, E, D, J, S, M, O, Try.el26, Try.td26, Try.td3, Try.td4, Dfa.av, List.length_map]; refine V _ ?_; clear V K0; simp only [put, app, Z, ae, zE, zS, D])
  refine ai ?_
  refine hK5 _ ?_; clear hK5; refine ad [0, 1, 2, 3, 4, 10] ?_; simp only [U, lkp, zE, reduceCtorEq, E, Y, D]
  refine aF ?_
  refine ⟨by first | exact .inl rfl | exact .inr rfl, _, rfl, ?_⟩; simp only [fzV, fz1, fzC, List.map_cons, List.map_nil, U, lkp, zE, reduceCtorEq, E, Y, D, Dfa.av, List.length_map]
  first
  | (have e1 : dE d = [] := if_neg (by assumption)
     have e2 : ex d = false := if_neg (by assumption)
     rw [e1, e2]; exact bD ⟨bu (aT rfl), fun _ _ _ _ _ h => h, fun _ _ _ _ _ h => h, trivial⟩)
  | (have hh := jE (g := cz d) (L := cv d) (k := k) (by omega) hq hgx
     have e1 : dE d = laW (cz d) (cv d) := if_pos hv
     have e2 : ex d = dB (cz d) (cv d) := if_pos hv
     rw [e1, e2, hh.1, hh.2, hs3, hv]; exact VLE.of_eq rfl)
  | (have hh := iu (g := cz d) (L := cv d) fun j hj => hq j (by omega)
     have e1 : dE d = laW (cz d) (cv d) := if_pos hv
     have e2 : ex d = dB (cz d) (cv d) := if_pos hv
     rw [e1, e2, hh.1, hh.2, hv]; exact bD ⟨bu (aT rfl), fun _ _ _ _ _ h => h, fun _ _ _ _ _ h => h, trivial⟩)
 ·(try simp only [zB, reduceCtorEq] at hc4)
  have hv : bf d = 0 := by omega
  have hd := de hv; have a1 := hd.i1; have a2 := hd.i2; have a3 := hd.n1; have a4 := hd.n2; have a5 := hd.s1; have a6 := hd.s2; have a7 := hd.al
  have hRL := ox hd (most := 128) (by omega)
  have hpl := p4 hd
  have hp1 := hRL.1
  refine aJ ?_
  refine hK2 _ ?_; clear hK2; refine ad [0, 1, 2, 3, 4, 10] ?_; simp only [U, lkp, zE, reduceCtorEq, E, Y, D]
  refine ab fun K6 hK6 => ?_
  refine ah hP hN rfl ?_
  iterate 2 (refine aa rfl fun K0 V => ?_; simp only [zE, op1, ev, lkp, ag, af, ay, Nat.mul_one, au, ax, acs, Ty.dflt, zG, am, reduceCtorEq, E, D, J, S, M, O, Try.st25, Try.td25, Dfa.av, List.length_map]; (repeat refine And.intro (by first | omega | assumption | exact rfl) ?_); refine V _ ?_; clear V K0; simp only [put, app, Z, ae, zE, zS, D])
  refine aa rfl fun K0 V => ?_
  refine aR (h := az (show bB Try.prog 49 [_, _, .one (.int .i64 128)] _ from p8 d d 128 hd hd rfl)) rfl rfl (by first | exact rfl | (simp only [ev, U, lkp, zE, reduceCtorEq, E, Y, D]; exact rfl)) (by simp only [zE, zG, op1, ev, lkp, ag, af, ak, acs, aW, mv1, mvC, Ty.dflt, reduceCtorEq, E, D, J, S, M, O, Dfa.av, List.length_map]) ?_
  refine V _ ?_; clear V K0; simp only [put, app, Z, ae, zE, zS, D]
  iterate 5 (refine aa rfl fun K0 V => ?_; simp only [zE, op1, ev, lkp, ag, af, bC, reduceCtorEq, E, D, J, S, M, O, Try.el22, Try.el89, Try.td1, Try.td22, Try.td89, Dfa.av, List.length_map]; refine V _ ?_; clear V K0; simp only [put, app, Z, ae, zE, zS, D])
  refine ai ?_
  refine hK6 _ ?_; clear hK6; refine ad [0, 1, 2, 3, 4, 5, 6, 10] ?_; simp only [U, lkp, zE, reduceCtorEq, E, Y, D]
  refine ab fun K7 hK7 => ?_
  refine ab fun K8 hK8 => ?_
  rw [show (ez (ca d d) d.inp.toNat 128 (d.nx.length * d.nx.length + 1) 0 [((d.st, d.st), [])]) = (dZ d d 128) from rfl]
  refine ah hP hN rfl ?_
  (refine aa rfl fun K0 V => ?_; simp only [zE, op1, ev, lkp, ag, af, ev, reduceCtorEq, E, D, J, S, M, O, Try.td3, Dfa.av, List.length_map]; refine V _ ?_; clear V K0; simp only [put, app, Z, ae, zE, zS, D])
  refine ai ?_
  refine hK8 _ ?_; clear hK8; refine ad [0, 1, 2, 3, 4, 5, 6, 7, 10] ?_; simp only [U, lkp, zE, reduceCtorEq, E, Y, D]
  refine aM ?_
  refine bp (fun n9 s9 => ∃ (k : Nat), (k ≤ (dZ d d 128).length) ∧ (∀ j, j < k → cz d ((cv d).getD j w30).1 = false) ∧ n9 = (dZ d d 128).length - k ∧ s9 = { env := [(1, .one (.ptr 0 0 0 0)), (2, .one .nils), (3, .one (.bool false)), (4, .one (.int .i64 0)), (5, .one (.list (.pair (.int .i64) (.pair (.int .i64) .unit)) (List.map ed ((dZ d d 128).map Prod.fst)))), (6, .one (.list (.list (.int .i64)) ((dZ d d 128).map Prod.snd))), (7, .one (.int .i64 (k : Int)))], L := [.vars 25 [.int .i64 d.inp, .int .i64 d.st, .list (.list (.int .i64)) d.nx, .list .bool d.acc]] }) ?_ ?_
  ·exact ⟨_, _, aL [1, 2, 3, 4, 5, 6, 7], 0, Nat.zero_le _, fun q hq => by omega, rfl, rfl⟩
  ·rintro n9 s9 ⟨k, hk, hq, rfl, rfl⟩
   refine ab fun K10 hK10 => ?_
   refine ab fun K11 hK11 => ?_
   refine ah hP hN rfl ?_
   iterate 4 (refine aa rfl fun K0 V => ?_; simp only [zE, op1, ev, lkp, ag, af, aG, bo, bc, aX, aZ, bl, Nat.div_one, aO, b0, Ty.size, aK, dite_true, aC, aE, aD, ar, aA, aP, reduceCtorEq, E, D, J, S, M, O, Try.el89, Try.td3, Try.td4, Try.td89, Dfa.av, List.length_map]; (repeat refine And.intro (by first | omega | assumption | exact rfl) ?_); (first | refine V _ ?_ | refine Or.inl (V _ ?_)); clear V K0; simp only [put, app, Z, ae, zE, zS, D])
   refine ai ?_
   refine hK11 _ ?_; clear hK11; refine ad [1, 2, 3, 4, 5, 6, 7, 22] ?_; simp only [U, lkp, zE, reduceCtorEq, E, Y, D]
   refine aB (by simp only [ev, U, lkp, zE, reduceCtorEq, E, Y, D]; exact rfl) (fun hc12 => ?_) (fun hc12 => ?_)
   ·(try simp only [zB, reduceCtorEq] at hc12)
    refine aJ ?_
    refine hK10 _ ?_; clear hK10; refine ad [1, 2, 3, 4, 5, 6, 7, 22] ?_; simp only [U, lkp, zE, reduceCtorEq, E, Y, D]
    refine ab fun K13 hK13 => ?_
    refine aM ?_
    refine ab fun K14 hK14 => ?_
    have hkl : k < (dZ d d 128).length := by omega
    have hgi : gt (.pair (.int .i64) (.pair (.int .i64) .unit)) (List.map ed ((dZ d d 128).map Prod.fst)) (k : Int) = (((dZ d d 128).getD k w30).1.1, (((dZ d d 128).getD k w30).1.2, ())) := kP hkl _
    have hwi : ∀ z, ((dZ d d 128).map Prod.snd).getD k z = ((dZ d d 128).getD k w30).2 := fun z => nX hkl z
    obtain ⟨hs1, hs2, hs3⟩ := qV hd hRL hkl
    refine bQ hP hN Try.mixed rfl ?_
    iterate 9 (refine aa rfl fun K0 V => ?_; simp only [zE, op1, ev, lkp, ag, af, aw, ay, Nat.mul_one, au, ax, acs, Ty.dflt, zG, am, aH, Ty.size, ne_eq, not_false_eq_true, Int.natCast_one, Int.mul_one, reduceCtorEq, E, D, J, S, M, O, Try.el23, Try.el89, Try.fl93, Try.st25, Try.st93, Try.td23, Try.td25, Try.td3, Try.td4, Try.td89, Try.td93, Dfa.av, List.length_map, hgi]; (repeat refine And.intro (by first | omega | assumption | exact rfl) ?_); refine V _ ?_; clear V K0; simp only [put, app, Z, ae, zE, zS, D])
    refine ai ?_
    refine ⟨by kernel_rfl, ?_⟩
    refine hK14 _ ?_; clear hK14; refine ad [1, 2, 3, 4, 5, 6, 7, 22, 33] ?_; simp only [U, lkp, zE, reduceCtorEq, E, Y, D]
    refine aB (by simp only [ev, U, lkp, zE, reduceCtorEq, E, Y, D]; exact rfl) (fun hc15 => ?_) (fun hc15 => ?_)
    ·(try simp only [zB, reduceCtorEq] at hc15)
     have hgx : cz d ((cv d).getD k w30).1 = true := hs2.trans hc15
     refine ab fun K16 hK16 => ?_
     refine ah hP hN rfl ?_
     iterate 7 (refine aa rfl fun K0 V => ?_; simp only [zE, op1, ev, lkp, ag, af, aH, zG, Ty.dflt, Ty.size, Nat.mul_one, ne_eq, not_false_eq_true, Int.natCast_one, Int.mul_one, ay, au, ax, acs, am, reduceCtorEq, E, D, J, S, M, O, Try.el22, Try.el26, Try.td22, Try.td26, Try.td3, Try.td4, Dfa.av, List.length_map, hwi]; (repeat refine And.intro (by first | omega | assumption | exact rfl) ?_); refine V _ ?_; clear V K0; simp only [put, app, Z, ae, zE, zS, D])
     refine ai ?_
     refine hK16 _ ?_; clear hK16; refine ad [1, 2, 3, 4, 5, 6, 7, 22, 33] ?_; simp only [U, lkp, zE, reduceCtorEq, E, Y, D]
     refine aF ?_
     refine ⟨by first | exact .inl rfl | exact .inr rfl, _, rfl, ?_⟩; simp only [fzV, fz1, fzC, List.map_cons, List.map_nil, U, lkp, zE, reduceCtorEq, E, Y, D, Dfa.av, List.length_map]
     first
     | (have e1 : dE d = [] := if_neg (by assumption)
        have e2 : ex d = false := if_neg (by assumption)
        rw [e1, e2]; exact bD ⟨bu (aT rfl), fun _ _ _ _ _ h => h, fun _ _ _ _ _ h => h, trivial⟩)
     | (have hh := jE (g := cz d) (L := cv d) (k := k) (by omega) hq hgx
        have e1 : dE d = laW (cz d) (cv d) := if_pos hv
        have e2 : ex d = dB (cz d) (cv d) := if_pos hv
        rw [e1, e2, hh.1, hh.2, hs3, hv]; exact VLE.of_eq rfl)
     | (have hh := iu (g := cz d) (L := cv d) fun j hj => hq j (by omega)
        have e1 : dE d = laW (cz d) (cv d) := if_pos hv
        have e2 : ex d = dB (cz d) (cv d) := if_pos hv
        rw [e1, e2, hh.1, hh.2, hv]; exact bD ⟨bu (aT rfl), fun _ _ _ _ _ h => h, fun _ _ _ _ _ h => h, trivial⟩)
    ·(try simp only [zB, reduceCtorEq] at hc15)
     have hgx : cz d ((cv d).getD k w30).1 = false := hs2.trans (by simpa [Dfa.ac] using hc15)
     refine aJ ?_
     refine hK13 _ ?_; clear hK13; refine ad [1, 2, 3, 4, 5, 6, 7, 22, 33] ?_; simp only [U, lkp, zE, reduceCtorEq, E, Y, D]
     refine ah hP hN rfl ?_
     iterate 3 (refine aa rfl fun K0 V => ?_; simp only [zE, op1, ev, lkp, ag, af, aC, aE, aD, ar, aA, aP, reduceCtorEq, E, D, J, S, M, O, Try.td3, Dfa.av, List.length_map]; (repeat refine And.intro (by first | omega | assumption | exact rfl) ?_); refine V _ ?_; clear V K0; simp only [put, app, Z, ae, zE, zS, D])
     refine ai ?_
     refine ⟨_, _, ?_, aL [1, 2, 3, 4, 5, 6, 7], k + 1, by omega, fun j hj => ?_, rfl, rfl⟩
     · omega
     · by_cases e : j = k
       · rw [e]; exact hgx
       · exact hq j (by omega)
   ·(try simp only [zB, reduceCtorEq] at hc12)
    refine bm ?_
    refine hK7 _ ?_; clear hK7; refine ad [1, 2, 3, 4, 5, 6, 7, 22] ?_; simp only [U, lkp, zE, reduceCtorEq, E, Y, D]
    refine ab fun K17 hK17 => ?_
    refine ah hP hN rfl ?_
    iterate 3 (refine aa rfl fun K0 V => ?_; simp only [zE, op1, ev, lkp, ag, af, ev, reduceCtorEq, E, D, J, S, M, O, Try.el26, Try.td26, Try.td3, Try.td4, Dfa.av, List.length_map]; refine V _ ?_; clear V K0; simp only [put, app, Z, ae, zE, zS, D])
    refine ai ?_
    refine hK17 _ ?_; clear hK17; refine ad [1, 2, 3, 4, 5, 6, 7, 22] ?_; simp only [U, lkp, zE, reduceCtorEq, E, Y, D]
    refine aF ?_
    refine ⟨by first | exact .inl rfl | exact .inr rfl, _, rfl, ?_⟩; simp only [fzV, fz1, fzC, List.map_cons, List.map_nil, U, lkp, zE, reduceCtorEq, E, Y, D, Dfa.av, List.length_map]
    first
    | (have e1 : dE d = [] := if_neg (by assumption)
       have e2 : ex d = false := if_neg (by assumption)
       rw [e1, e2]; exact bD ⟨bu (aT rfl), fun _ _ _ _ _ h => h, fun _ _ _ _ _ h => h, trivial⟩)
    | (have hh := jE (g := cz d) (L := cv d) (k := k) (by omega) hq hgx
       have e1 : dE d = laW (cz d) (cv d) := if_pos hv
       have e2 : ex d = dB (cz d) (cv d) := if_pos hv
       rw [e1, e2, hh.1, hh.2, hs3, hv]; exact VLE.of_eq rfl)
    | (have hh := iu (g := cz d) (L := cv d) fun j hj => hq j (by omega)
       have e1 : dE d = laW (cz d) (cv d) := if_pos hv
       have e2 : ex d = dB (cz d) (cv d) := if_pos hv
       rw [e1, e2, hh.1, hh.2, hv]; exact bD ⟨bu (aT rfl), fun _ _ _ _ _ h => h, fun _ _ _ _ _ h => h, trivial⟩)
end Go.Proofs.Ytdkgcbhbpdbmnaa
namespace Go.Proofs.Ytdkgcbhbpdbmnaa
open Go Go.AV
open Nat renaming reduceEqDiff → E, reduceAdd → D, reduceLeDiff → J, reduceLT → S, reduceMul → M, reduceSub → O
open List renaming set_cons_zero → aq, set_cons_succ → ao
set_option maxRecDepth 100000 in
theorem rx (d : Dfa) (w : List Int) : bB Try.prog 3 [d.av, .one (.list (.int .i64) w)] (.one (.bool true)) := by
 refine aQ Try.func3 rfl (by kernel_rfl) (Nat.le_of_ble_eq_true rfl) rfl fun C hP hN hB => ?_
 replace hN : C.N = 104 := hN
 simp only [Y, D]
 refine dS 1 rfl fun hf1 => ?_; simp only [lkp, if_true, if_false, reduceCtorEq, E, eq_self, Nat.one_ne_zero, Nat.zero_ne_one, gr, fR, fN, Fit, and_true, implies_true, true_and] at hf1
 refine ab fun K1 hK1 => ?_
 refine ah hP hN rfl ?_
 iterate 2 (refine aa rfl fun K0 V => ?_; simp only [zE, op1, ev, lkp, ag, af, bV, ak, reduceCtorEq, E, D, J, S, M, O, Try.st25, Try.td25, Try.td4, Dfa.av]; (repeat refine And.intro (by first | omega | assumption | exact rfl) ?_); refine V _ ?_; clear V K0; simp only [put, app, Z, ae, zE, zS, D])
 refine ai ?_
 refine hK1 _ ?_; clear hK1; refine ad [0, 1, 2, 4] ?_; simp only [U, lkp, zE, reduceCtorEq, E, Y, D]
 refine ab fun K2 hK2 => ?_
 refine ab fun K3 hK3 => ?_
 refine ah hP hN rfl ?_
 (refine aa rfl fun K0 V => ?_; simp only [zE, op1, ev, lkp, ag, af, ay, Nat.mul_one, au, ax, acs, Ty.dflt, zG, am, reduceCtorEq, E, D, J, S, M, O, Try.st25, Try.td25, Dfa.av]; (repeat refine And.intro (by first | omega | assumption | exact rfl) ?_); refine V _ ?_; clear V K0; simp only [put, app, Z, ae, zE, zS, D])
 refine aa rfl fun K0 V => ?_
 refine aR (h := az (pd d)) rfl rfl (by first | exact rfl | (simp only [ev, U, lkp, zE, reduceCtorEq, E, Y, D]; exact rfl)) (by simp only [zE, zG, op1, ev, lkp, ag, af, ak, acs, aW, mv1, mvC, Ty.dflt, reduceCtorEq, E, D, J, S, M, O, Dfa.av]) ?_
 refine V _ ?_; clear V K0; simp only [put, app, Z, ae, zE, zS, D]
 (refine aa rfl fun K0 V => ?_; simp only [zE, op1, ev, lkp, ag, af, ev, reduceCtorEq, E, D, J, S, M, O, Try.td4, Dfa.av]; refine V _ ?_; clear V K0; simp only [put, app, Z, ae, zE, zS, D])
 refine' aU (want := false) 3 rfl (m := 21) (by simp only [U, lkp, zE, reduceCtorEq, E, Y, D]; exact rfl) (by kernel_rfl) rfl rfl rfl rfl rfl (fun hg4 => ?a4) ?b4 ?c4
 case a4 =>
  have hq4 := hg4; (try simp only [zB, reduceCtorEq] at hg4); simp only [List.take_succ_cons, List.take_zero, List.cons_append, List.nil_append]
  (refine aI rfl fun K0 V => ?_; simp only [zE, op1, ev, lkp, ag, af, ev, reduceCtorEq, E, D, J, S, M, O, Try.el26, Try.td26, Dfa.av]; refine V _ ?_; clear V K0; simp only [put, app, Z, ae, zE, zS, D])
  (refine aI rfl fun K0 V => ?_; simp only [zE, op1, ev, lkp, ag, af, aG, bo, bc, aX, aZ, bl, Nat.div_one, aO, b0, Ty.size, aK, dite_true, reduceCtorEq, E, D, J, S, M, O, Try.el26, Try.td26, Try.td3, Dfa.av]; (repeat refine And.intro (by first | omega | assumption | exact rfl) ?_); (first | refine V _ ?_ | refine Or.inl (V _ ?_)); clear V K0; simp only [put, app, Z, ae, zE, zS, D])
  (refine aI rfl fun K0 V => ?_; simp only [zE, op1, ev, lkp, ag, af, aC, aE, aD, ar, aA, aP, reduceCtorEq, E, D, J, S, M, O, Try.td3, Try.td4, Dfa.av]; (repeat refine And.intro (by first | omega | assumption | exact rfl) ?_); refine V _ ?_; clear V K0; simp only [put, app, Z, ae, zE, zS, D])
  (refine aa rfl fun K0 V => ?_; simp only [zE, op1, ev, lkp, ag, af, bn, reduceCtorEq, E, D, J, S, M, O, Try.td4, Dfa.av]; refine V _ ?_; clear V K0; simp only [put, app, Z, ae, zE, zS, D])
  refine ai ?_
  refine ⟨by simp only [U, lkp, zE, reduceCtorEq, E, Y, D]; exact rfl, rfl, ?_, rfl⟩; (repeat refine aV rfl ?_); exact br (by exact rfl) hq4
 case b4 => exact bq (by first | rfl | (simp [bT]; done) | decide)
 simp only [bk, bb]
 refine ai ?_
 refine hK3 _ ?_; clear hK3; refine ad [0, 1, 2, 4, 25] ?_; simp only [U, lkp, zE, reduceCtorEq, E, Y, D]
 refine aB (by simp only [ev, U, lkp, zE, reduceCtorEq, E, Y, D]; exact rfl) (fun hc5 => ?_) (fun hc5 => ?_)
 ·(try simp only [zB, reduceCtorEq] at hc5)
  refine ab fun K6 hK6 => ?_
  refine ah hP hN rfl ?_
  refine aa rfl fun K0 V => ?_
  refine aR (h := az jA) rfl rfl (by first | exact rfl | (simp only [ev, U, lkp, zE, reduceCtorEq, E, Y, D]; exact rfl)) (by simp only [zE, zG, op1, ev, lkp, ag, af, ak, acs, aW, mv1, mvC, Ty.dflt, reduceCtorEq, E, D, J, S, M, O, Dfa.av]) ?_
  refine V _ ?_; clear V K0; simp only [put, app, Z, ae, zE, zS, D]
  (refine aa rfl fun K0 V => ?_; simp only [zE, op1, ev, lkp, ag, af, ev, reduceCtorEq, E, D, J, S, M, O, Try.td4, Dfa.av]; refine V _ ?_; clear V K0; simp only [put, app, Z, ae, zE, zS, D])
  refine ai ?_
  refine hK6 _ ?_; clear hK6; refine ad [0, 1, 2, 4, 25] ?_; simp only [U, lkp, zE, reduceCtorEq, E, Y, D]
  refine aF ?_
  refine ⟨by first | exact .inl rfl | exact .inr rfl, _, rfl, ?_⟩; simp only [fzV, fz1, fzC, List.map_cons, List.map_nil, U, lkp, zE, reduceCtorEq, E, Y, D, Dfa.av]
  refine VLE.of_eq ?_
  first | rfl | (refine congrArg (fun b => AV.one (AC.bool b)) ?_; simp [iW, mN]; done)
 ·(try simp only [zB, reduceCtorEq] at hc5)
  refine aJ ?_
  refine hK2 _ ?_; clear hK2; refine ad [0, 1, 2, 4, 25] ?_; simp only [U, lkp, zE, reduceCtorEq, E, Y, D]
  refine ab fun K7 hK7 => ?_
  refine ah hP hN rfl ?_
  iterate 2 (refine aa rfl fun K0 V => ?_; simp only [zE, op1, ev, lkp, ag, af, ay, Nat.mul_one, au, ax, acs, Ty.dflt, zG, am, reduceCtorEq, E, D, J, S, M, O, Try.el26, Try.st25, Try.td25, Try.td26, Dfa.av]; (repeat refine And.intro (by first | omega | assumption | exact rfl) ?_); refine V _ ?_; clear V K0; simp only [put, app, Z, ae, zE, zS, D])
  refine aa rfl fun K0 V => ?_
  refine aR (h := az (iT d w)) rfl rfl (by first | exact rfl | (simp only [ev, U, lkp, zE, reduceCtorEq, E, Y, D]; exact rfl)) (by simp only [zE, zG, op1, ev, lkp, ag, af, ak, acs, aW, mv1, mvC, Ty.dflt, reduceCtorEq, E, D, J, S, M, O, Dfa.av]) ?_
  refine V _ ?_; clear V K0; simp only [put, app, Z, ae, zE, zS, D]
  iterate 5 (refine aa rfl fun K0 V => ?_; simp only [zE, op1, ev, lkp, ag, af, bC, reduceCtorEq, E, D, J, S, M, O, Try.td1, Try.td29, Try.td4, Dfa.av]; refine V _ ?_; clear V K0; simp only [put, app, Z, ae, zE, zS, D])
  refine ai ?_
  refine hK7 _ ?_; clear hK7; refine ad [0, 1, 2, 4, 5, 6, 25] ?_; simp only [U, lkp, zE, reduceCtorEq, E, Y, D]
  refine ab fun K8 hK8 => ?_
  refine ah hP hN rfl ?_
  iterate 2 (refine aa rfl fun K0 V => ?_; simp only [zE, op1, ev, lkp, ag, af, ay, Nat.mul_one, au, ax, acs, Ty.dflt, zG, am, reduceCtorEq, E, D, J, S, M, O, Try.el26, Try.st25, Try.td25, Try.td26, Dfa.av]; (repeat refine And.intro (by first | omega | assumption | exact rfl) ?_); refine V _ ?_; clear V K0; simp only [put, app, Z, ae, zE, zS, D])
  refine aa rfl fun K0 V => ?_
  refine aR (h := az (ld d w)) rfl rfl (by first | exact rfl | (simp only [ev, U, lkp, zE, reduceCtorEq, E, Y, D]; exact rfl)) (by simp only [zE, zG, op1, ev, lkp, ag, af, ak, acs, aW, mv1, mvC, Ty.dflt, reduceCtorEq, E, D, J, S, M, O, Dfa.av]) ?_
  refine V _ ?_; clear V K0; simp only [put, app, Z, ae, zE, zS, D]
  iterate 5 (refine aa rfl fun K0 V => ?_; simp only [zE, op1, ev, lkp, ag, af, bC, reduceCtorEq, E, D, J, S, M, O, Try.td1, Try.td3, Try.td4, Dfa.av]; refine V _ ?_; clear V K0; simp only [put, app, Z, ae, zE, zS, D])
  refine ai ?_
  refine hK8 _ ?_; clear hK8; refine ad [0, 1, 2, 4, 5, 6, 7, 8, 25] ?_; simp only [U, lkp, zE, reduceCtorEq, E, Y, D]
  refine ab fun K9 hK9 => ?_
  refine ah hP hN rfl ?_
  (refine aa rfl fun K0 V => ?_; simp only [zE, op1, ev, lkp, ag, af, ay, Nat.mul_one, au, ax, acs, Ty.dflt, zG, am, reduceCtorEq, E, D, J, S, M, O, Try.st25, Try.td25, Dfa.av]; (repeat refine And.intro (by first | omega | assumption | exact rfl) ?_); refine V _ ?_; clear V K0; simp only [put, app, Z, ae, zE, zS, D])
  refine aa rfl fun K0 V => ?_
  refine aR (h := az (mq d)) rfl rfl (by first | exact rfl | (simp only [ev, U, lkp, zE, reduceCtorEq, E, Y, D]; exact rfl)) (by simp only [zE, zG, op1, ev, lkp, ag, af, ak, acs, aW, mv1, mvC, Ty.dflt, reduceCtorEq, E, D, J, S, M, O, Dfa.av]) ?_
  refine V _ ?_; clear V K0; simp only [put, app, Z, ae, zE, zS, D]
  iterate 6 (refine aa rfl fun K0 V => ?_; simp only [zE, op1, ev, lkp, ag, af, bC, bE, be, Nat.mul_one, ak, aN, aK, acs, Ty.size, Ty.dflt, zG, reduceCtorEq, E, D, J, S, M, O, Try.st25, Try.td1, Try.td25, Try.td29, Dfa.av]; (repeat refine And.intro (by first | omega | assumption | exact rfl) ?_); (first | refine V _ ?_ | refine Or.inl (V _ ?_)); clear V K0; simp only [put, app, Z, ae, zE, zS, D])
  refine ai ?_
  refine hK9 _ ?_; clear hK9; refine ad [0, 1, 2, 4, 5, 6, 7, 8, 9, 10, 25] ?_; simp only [U, lkp, zE, reduceCtorEq, E, Y, D]
  refine ab fun K10 hK10 => ?_
  refine ah hP hN rfl ?_
  (refine aa rfl fun K0 V => ?_; simp only [zE, op1, ev, lkp, ag, af, ay, Nat.mul_one, au, ax, acs, Ty.dflt, zG, am, reduceCtorEq, E, D, J, S, M, O, Try.st25, Try.td25, Dfa.av]; (repeat refine And.intro (by first | omega | assumption | exact rfl) ?_); refine V _ ?_; clear V K0; simp only [put, app, Z, ae, zE, zS, D])
  refine aa rfl fun K0 V => ?_
  refine aR (h := az (oG d)) rfl rfl (by first | exact rfl | (simp only [ev, U, lkp, zE, reduceCtorEq, E, Y, D]; exact rfl)) (by simp only [zE, zG, op1, ev, lkp, ag, af, ak, acs, aW, mv1, mvC, Ty.dflt, reduceCtorEq, E, D, J, S, M, O, Dfa.av]) ?_
  refine V _ ?_; clear V K0; simp only [put, app, Z, ae, zE, zS, D]
  iterate 6 (refine aa rfl fun K0 V => ?_; simp only [zE, op1, ev, lkp, ag, af, bC, bE, be, Nat.mul_one, ak, aN, aK, acs, Ty.size, Ty.dflt, zG, reduceCtorEq, E, D, J, S, M, O, Try.st25, Try.td1, Try.td25, Try.td3, Dfa.av]; (repeat refine And.intro (by first | omega | assumption | exact rfl) ?_); (first | refine V _ ?_ | refine Or.inl (V _ ?_)); clear V K0; simp only [put, app, Z, ae, zE, zS, D])
  refine ai ?_
  refine hK10 _ ?_; clear hK10; refine ad [0, 1, 2, 4, 5, 6, 7, 8, 9, 10, 11, 12, 25] ?_; simp only [U, lkp, zE, reduceCtorEq, E, Y, D]
  refine ab fun K11 hK11 => ?_
  refine ah hP hN rfl ?_
  (refine aa rfl fun K0 V => ?_; simp only [zE, op1, ev, lkp, ag, af, ay, Nat.mul_one, au, ax, acs, Ty.dflt, zG, am, reduceCtorEq, E, D, J, S, M, O, Try.st25, Try.td25, Dfa.av]; (repeat refine And.intro (by first | omega | assumption | exact rfl) ?_); refine V _ ?_; clear V K0; simp only [put, app, Z, ae, zE, zS, D])
  refine aa rfl fun K0 V => ?_
  refine aR (h := az (kB d)) rfl rfl (by first | exact rfl | (simp only [ev, U, lkp, zE, reduceCtorEq, E, Y, D]; exact rfl)) (by simp only [zE, zG, op1, ev, lkp, ag, af, ak, acs, aW, mv1, mvC, Ty.dflt, reduceCtorEq, E, D, J, S, M, O, Dfa.av]) ?_
  refine V _ ?_; clear V K0; simp only [put, app, Z, ae, zE, zS, D]
  iterate 7 (refine aa rfl fun K0 V => ?_; simp only [zE, op1, ev, lkp, ag, af, bC, reduceCtorEq, E, D, J, S, M, O, Try.el26, Try.td1, Try.td2, Try.td26, Try.td29, Try.td4, Dfa.av]; refine V _ ?_; clear V K0; simp only [put, app, Z, ae, zE, zS, D])
  refine ai ?_
  refine hK11 _ ?_; clear hK11; refine ad [0, 1, 2, 4, 5, 6, 7, 8, 9, 10, 11, 12, 13, 14, 15, 25] ?_; simp only [U, lkp, zE, reduceCtorEq, E, Y, D]
  refine ab fun K12 hK12 => ?_
  refine ah hP hN rfl ?_
  (refine aa rfl fun K0 V => ?_; simp only [zE, op1, ev, lkp, ag, af, ay, Nat.mul_one, au, ax, acs, Ty.dflt, zG, am, reduceCtorEq, E, D, J, S, M, O, Try.st25, Try.td25, Dfa.av]; (repeat refine And.intro (by first | omega | assumption | exact rfl) ?_); refine V _ ?_; clear V K0; simp only [put, app, Z, ae, zE, zS, D])
  refine aa rfl fun K0 V => ?_
  refine aR (h := az (oJ d)) rfl rfl (by first | exact rfl | (simp only [ev, U, lkp, zE, reduceCtorEq, E, Y, D]; exact rfl)) (by simp only [zE, zG, op1, ev, lkp, ag, af, ak, acs, aW, mv1, mvC, Ty.dflt, reduceCtorEq, E, D, J, S, M, O, Dfa.av]) ?_
  refine V _ ?_; clear V K0; simp only [put, app, Z, ae, zE, zS, D]
  iterate 7 (refine aa rfl fun K0 V => ?_; simp only [zE, op1, ev, lkp, ag, af, bC, reduceCtorEq, E, D, J, S, M, O, Try.el26, Try.td1, Try.td2, Try.td26, Try.td3, Try.td4, Dfa.av]; refine V _ ?_; clear V K0; simp only [put, app, Z, ae, zE, zS, D])
  refine ai ?_
  refine hK12 _ ?_; clear hK12; refine ad [0, 1, 2, 4, 5, 6, 7, 8, 9, 10, 11, 12, 13, 14, 15, 16, 17, 18, 25] ?_; simp only [U, lkp, zE, reduceCtorEq, E, Y, D]
  refine ab fun K13 hK13 => ?_
  refine bQ hP hN Try.mixed rfl ?_
  (refine aa rfl fun K0 V => ?_; simp only [zE, op1, ev, lkp, ag, af, ay, Nat.mul_one, au, ax, acs, Ty.dflt, zG, am, reduceCtorEq, E, D, J, S, M, O, Try.st25, Try.td25, Dfa.av]; (repeat refine And.intro (by first | omega | assumption | exact rfl) ?_); refine V _ ?_; clear V K0; simp only [put, app, Z, ae, zE, zS, D])
  refine aa rfl fun K0 V => ?_
  refine aR (h := az (dh d)) rfl rfl (by first | exact rfl | (simp only [ev, U, lkp, zE, reduceCtorEq, E, Y, D]; exact rfl)) (by simp only [zE, zG, op1, ev, lkp, ag, af, ak, acs, aW, mv1, mvC, Ty.dflt, reduceCtorEq, E, D, J, S, M, O, Dfa.av]) ?_
  refine V _ ?_; clear V K0; simp only [put, app, Z, ae, zE, zS, D]
  (refine aa rfl fun K0 V => ?_; simp only [zE, op1, ev, lkp, ag, af, ay, Nat.mul_one, au, ax, acs, Ty.dflt, zG, am, reduceCtorEq, E, D, J, S, M, O, Try.st25, Try.td25, Dfa.av]; (repeat refine And.intro (by first | omega | assumption | exact rfl) ?_); refine V _ ?_; clear V K0; simp only [put, app, Z, ae, zE, zS, D])
  refine aa rfl fun K0 V => ?_
  refine aR (h := az (dg d)) rfl rfl (by first | exact rfl | (simp only [ev, U, lkp, zE, reduceCtorEq, E, Y, D]; exact rfl)) (by simp only [zE, zG, op1, ev, lkp, ag, af, ak, acs, aW, mv1, mvC, Ty.dflt, reduceCtorEq, E, D, J, S, M, O, Dfa.av]) ?_
  refine V _ ?_; clear V K0; simp only [put, app, Z, ae, zE, zS, D]
  (refine aa rfl fun K0 V => ?_; simp only [zE, op1, ev, lkp, ag, af, aC, aE, aD, ar, aA, aP, reduceCtorEq, E, D, J, S, M, O, Try.td3, Try.td4, Dfa.av]; (repeat refine And.intro (by first | omega | assumption | exact rfl) ?_); refine V _ ?_; clear V K0; simp only [put, app, Z, ae, zE, zS, D])
  (refine aa rfl fun K0 V => ?_; simp only [zE, op1, ev, lkp, ag, af, ev, reduceCtorEq, E, D, J, S, M, O, Try.td4, Dfa.av]; refine V _ ?_; clear V K0; simp only [put, app, Z, ae, zE, zS, D])
  refine' aU (want := true) 3 rfl (m := 66) (by simp only [U, lkp, zE, reduceCtorEq, E, Y, D]; exact rfl) (by kernel_rfl) rfl rfl rfl rfl rfl (fun hg14 => ?a14) ?b14 ?c14
  case a14 =>
   have hq14 := hg14; (try simp only [zB, reduceCtorEq] at hg14); simp only [List.take_succ_cons, List.take_zero, List.cons_append, List.nil_append]
   (refine aI rfl fun K0 V => ?_; simp only [zE, op1, ev, lkp, ag, af, ev, reduceCtorEq, E, D, J, S, M, O, Try.td4, Dfa.av]; refine V _ ?_; clear V K0; simp only [put, app, Z, ae, zE, zS, D])
   (refine aI rfl fun K0 V => ?_; simp only [zE, op1, ev, lkp, ag, af, ev, reduceCtorEq, E, D, J, S, M, O, Try.td4, Dfa.av]; refine V _ ?_; clear V K0; simp only [put, app, Z, ae, zE, zS, D])
   (refine aI rfl fun K0 V => ?_; simp only [zE, op1, ev, lkp, ag, af, aC, aE, aD, ar, aA, aP, reduceCtorEq, E, D, J, S, M, O, Try.td4, Dfa.av]; (repeat refine And.intro (by first | omega | assumption | exact rfl) ?_); refine V _ ?_; clear V K0; simp only [put, app, Z, ae, zE, zS, D])
   (refine aa rfl fun K0 V => ?_; simp only [zE, op1, ev, lkp, ag, af, bn, reduceCtorEq, E, D, J, S, M, O, Try.td4, Dfa.av]; refine V _ ?_; clear V K0; simp only [put, app, Z, ae, zE, zS, D])
   refine ai ?_
   refine ⟨by simp only [U, lkp, zE, reduceCtorEq, E, Y, D]; exact rfl, rfl, ?_, rfl⟩; (repeat refine aV rfl ?_); exact br (by exact rfl) hq14
  case b14 => exact bq (by first | rfl | (simp [bT]; done) | decide)
  simp only [bk, bb]
  (refine aa rfl fun K0 V => ?_; simp only [zE, op1, ev, lkp, ag, af, ev, reduceCtorEq, E, D, J, S, M, O, Try.td4, Dfa.av]; refine V _ ?_; clear V K0; simp only [put, app, Z, ae, zE, zS, D])
  refine' aU (want := true) 3 rfl (m := 71) (by simp only [U, lkp, zE, reduceCtorEq, E, Y, D]; exact rfl) (by kernel_rfl) rfl rfl rfl rfl rfl (fun hg15 => ?a15) ?b15 ?c15
  case a15 =>
   have hq15 := hg15; (try simp only [zB, reduceCtorEq] at hg15); simp only [List.take_succ_cons, List.take_zero, List.cons_append, List.nil_append]
   (refine aI rfl fun K0 V => ?_; simp only [zE, op1, ev, lkp, ag, af, ev, reduceCtorEq, E, D, J, S, M, O, Try.td29, Dfa.av]; refine V _ ?_; clear V K0; simp only [put, app, Z, ae, zE, zS, D])
   (refine aI rfl fun K0 V => ?_; simp only [zE, op1, ev, lkp, ag, af, ev, reduceCtorEq, E, D, J, S, M, O, Try.td3, Dfa.av]; refine V _ ?_; clear V K0; simp only [put, app, Z, ae, zE, zS, D])
   (refine aI rfl fun K0 V => ?_; simp only [zE, op1, ev, lkp, ag, af, aC, aE, aD, ar, aA, aP, reduceCtorEq, E, D, J, S, M, O, Try.td3, Try.td4, Dfa.av]; (repeat refine And.intro (by first | omega | assumption | exact rfl) ?_); refine V _ ?_; clear V K0; simp only [put, app, Z, ae, zE, zS, D])
   (refine aa rfl fun K0 V => ?_; simp only [zE, op1, ev, lkp, ag, af, bn, reduceCtorEq, E, D, J, S, M, O, Try.td4, Dfa.av]; refine V _ ?_; clear V K0; simp only [put, app, Z, ae, zE, zS, D])
   refine ai ?_
   refine ⟨by simp only [U, lkp, zE, reduceCtorEq, E, Y, D]; exact rfl, rfl, ?_, rfl⟩; (repeat refine aV rfl ?_); exact br (by exact rfl) hq15
  case b15 => exact bq (by first | rfl | (simp [bT]; done) | decide)
  simp only [bk, bb]
  (refine aa rfl fun K0 V => ?_; simp only [zE, op1, ev, lkp, ag, af, ev, reduceCtorEq, E, D, J, S, M, O, Try.td4, Dfa.av]; refine V _ ?_; clear V K0; simp only [put, app, Z, ae, zE, zS, D])
  refine' aU (want := true) 3 rfl (m := 76) (by simp only [U, lkp, zE, reduceCtorEq, E, Y, D]; exact rfl) (by kernel_rfl) rfl rfl rfl rfl rfl (fun hg16 => ?a16) ?b16 ?c16
  case a16 =>
   have hq16 := hg16; (try simp only [zB, reduceCtorEq] at hg16); simp only [List.take_succ_cons, List.take_zero, List.cons_append, List.nil_append]
   (refine aI rfl fun K0 V => ?_; simp only [zE, op1, ev, lkp, ag, af, ay, Nat.mul_one, au, ax, acs, Ty.dflt, zG, am, reduceCtorEq, E, D, J, S, M, O, Try.st25, Try.td25, Dfa.av]; (repeat refine And.intro (by first | omega | assumption | exact rfl) ?_); refine V _ ?_; clear V K0; simp only [put, app, Z, ae, zE, zS, D])
   (refine aI rfl fun K0 V => ?_; simp only [zE, op1, ev, lkp, ag, af, ay, Nat.mul_one, au, ax, acs, Ty.dflt, zG, am, reduceCtorEq, E, D, J, S, M, O, Try.st25, Try.td25, Dfa.av]; (repeat refine And.intro (by first | omega | assumption | exact rfl) ?_); refine V _ ?_; clear V K0; simp only [put, app, Z, ae, zE, zS, D])
   refine aI rfl fun K0 V => ?_
   refine aR (h := az (jS (coD d) (coD d) (r7 d))) rfl rfl (by first | exact rfl | (simp only [ev, U, lkp, zE, reduceCtorEq, E, Y, D]; exact rfl)) (by simp only [zE, zG, op1, ev, lkp, ag, af, ak, acs, aW, mv1, mvC, Ty.dflt, reduceCtorEq, E, D, J, S, M, O, Dfa.av]) ?_
   refine V _ ?_; clear V K0; simp only [put, app, Z, ae, zE, zS, D]
   (refine aa rfl fun K0 V => ?_; simp only [zE, op1, ev, lkp, ag, af, bn, reduceCtorEq, E, D, J, S, M, O, Try.td4, Dfa.av]; refine V _ ?_; clear V K0; simp only [put, app, Z, ae, zE, zS, D])
   refine ai ?_
   refine ⟨by simp only [U, lkp, zE, reduceCtorEq, E, Y, D]; exact rfl, rfl, ?_, rfl⟩; (repeat refine aV rfl ?_); exact br (by exact rfl) hq16
  case b16 => exact bq (by first | rfl | (simp [bT]; done) | decide)
  simp only [bk, bb]
  (refine aa rfl fun K0 V => ?_; simp only [zE, op1, ev, lkp, ag, af, ev, reduceCtorEq, E, D, J, S, M, O, Try.td4, Dfa.av]; refine V _ ?_; clear V K0; simp only [put, app, Z, ae, zE, zS, D])
  refine' aU (want := true) 3 rfl (m := 81) (by simp only [U, lkp, zE, reduceCtorEq, E, Y, D]; exact rfl) (by kernel_rfl) rfl rfl rfl rfl rfl (fun hg17 => ?a17) ?b17 ?c17
  case a17 =>
   have hq17 := hg17; (try simp only [zB, reduceCtorEq] at hg17); simp only [List.take_succ_cons, List.take_zero, List.cons_append, List.nil_append]
   (refine aI rfl fun K0 V => ?_; simp only [zE, op1, ev, lkp, ag, af, ev, reduceCtorEq, E, D, J, S, M, O, Try.td29, Dfa.av]; refine V _ ?_; clear V K0; simp only [put, app, Z, ae, zE, zS, D])
   (refine aI rfl fun K0 V => ?_; simp only [zE, op1, ev, lkp, ag, af, ev, reduceCtorEq, E, D, J, S, M, O, Try.td3, Dfa.av]; refine V _ ?_; clear V K0; simp only [put, app, Z, ae, zE, zS, D])
   (refine aI rfl fun K0 V => ?_; simp only [zE, op1, ev, lkp, ag, af, aC, aE, aD, ar, aA, aP, reduceCtorEq, E, D, J, S, M, O, Try.td3, Try.td4, Dfa.av]; (repeat refine And.intro (by first | omega | assumption | exact rfl) ?_); refine V _ ?_; clear V K0; simp only [put, app, Z, ae, zE, zS, D])
   (refine aa rfl fun K0 V => ?_; simp only [zE, op1, ev, lkp, ag, af, bn, reduceCtorEq, E, D, J, S, M, O, Try.td4, Dfa.av]; refine V _ ?_; clear V K0; simp only [put, app, Z, ae, zE, zS, D])
   refine ai ?_
   refine ⟨by simp only [U, lkp, zE, reduceCtorEq, E, Y, D]; exact rfl, rfl, ?_, rfl⟩; (repeat refine aV rfl ?_); exact br (by exact rfl) hq17
  case b17 => exact bq (by first | rfl | (simp [bT]; done) | decide)
  simp only [bk, bb]
  (refine aa rfl fun K0 V => ?_; simp only [zE, op1, ev, lkp, ag, af, ev, reduceCtorEq, E, D, J, S, M, O, Try.td4, Dfa.av]; refine V _ ?_; clear V K0; simp only [put, app, Z, ae, zE, zS, D])
  refine' aU (want := true) 3 rfl (m := 86) (by simp only [U, lkp, zE, reduceCtorEq, E, Y, D]; exact rfl) (by kernel_rfl) rfl rfl rfl rfl rfl (fun hg18 => ?a18) ?b18 ?c18
  case a18 =>
   have hq18 := hg18; (try simp only [zB, reduceCtorEq] at hg18); simp only [List.take_succ_cons, List.take_zero, List.cons_append, List.nil_append]
   (refine aI rfl fun K0 V => ?_; simp only [zE, op1, ev, lkp, ag, af, ev, reduceCtorEq, E, D, J, S, M, O, Try.el26, Try.td26, Dfa.av]; refine V _ ?_; clear V K0; simp only [put, app, Z, ae, zE, zS, D])
   (refine aI rfl fun K0 V => ?_; simp only [zE, op1, ev, lkp, ag, af, ev, reduceCtorEq, E, D, J, S, M, O, Try.el26, Try.td26, Dfa.av]; refine V _ ?_; clear V K0; simp only [put, app, Z, ae, zE, zS, D])
   refine aI rfl fun K0 V => ?_
   refine aR (h := az (lD (dE d) (dE d))) rfl rfl (by first | exact rfl | (simp only [ev, U, lkp, zE, reduceCtorEq, E, Y, D]; exact rfl)) (by simp only [zE, zG, op1, ev, lkp, ag, af, ak, acs, aW, mv1, mvC, Ty.dflt, reduceCtorEq, E, D, J, S, M, O, Dfa.av]) ?_
   refine V _ ?_; clear V K0; simp only [put, app, Z, ae, zE, zS, D]
   (refine aa rfl fun K0 V => ?_; simp only [zE, op1, ev, lkp, ag, af, bn, reduceCtorEq, E, D, J, S, M, O, Try.td4, Dfa.av]; refine V _ ?_; clear V K0; simp only [put, app, Z, ae, zE, zS, D])
   refine ai ?_
   refine ⟨by simp only [U, lkp, zE, reduceCtorEq, E, Y, D]; exact rfl, rfl, ?_, rfl⟩; (repeat refine aV rfl ?_); exact br (by exact rfl) hq18
  case b18 => exact bq (by first | rfl | (simp [bT]; done) | decide)
  simp only [bk, bb]
  (refine aa rfl fun K0 V => ?_; simp only [zE, op1, ev, lkp, ag, af, ev, reduceCtorEq, E, D, J, S, M, O, Try.td4, Dfa.av]; refine V _ ?_; clear V K0; simp only [put, app, Z, ae, zE, zS, D])
  refine' aU (want := true) 3 rfl (m := 91) (by simp only [U, lkp, zE, reduceCtorEq, E, Y, D]; exact rfl) (by kernel_rfl) rfl rfl rfl rfl rfl (fun hg19 => ?a19) ?b19 ?c19
  case a19 =>
   have hq19 := hg19; (try simp only [zB, reduceCtorEq] at hg19); simp only [List.take_succ_cons, List.take_zero, List.cons_append, List.nil_append]
   (refine aI rfl fun K0 V => ?_; simp only [zE, op1, ev, lkp, ag, af, ev, reduceCtorEq, E, D, J, S, M, O, Try.td4, Dfa.av]; refine V _ ?_; clear V K0; simp only [put, app, Z, ae, zE, zS, D])
   (refine aI rfl fun K0 V => ?_; simp only [zE, op1, ev, lkp, ag, af, ev, reduceCtorEq, E, D, J, S, M, O, Try.td4, Dfa.av]; refine V _ ?_; clear V K0; simp only [put, app, Z, ae, zE, zS, D])
   (refine aI rfl fun K0 V => ?_; simp only [zE, op1, ev, lkp, ag, af, aC, aE, aD, ar, aA, aP, reduceCtorEq, E, D, J, S, M, O, Try.td4, Dfa.av]; (repeat refine And.intro (by first | omega | assumption | exact rfl) ?_); refine V _ ?_; clear V K0; simp only [put, app, Z, ae, zE, zS, D])
   (refine aa rfl fun K0 V => ?_; simp only [zE, op1, ev, lkp, ag, af, bn, reduceCtorEq, E, D, J, S, M, O, Try.td4, Dfa.av]; refine V _ ?_; clear V K0; simp only [put, app, Z, ae, zE, zS, D])
   refine ai ?_
   refine ⟨by simp only [U, lkp, zE, reduceCtorEq, E, Y, D]; exact rfl, rfl, ?_, rfl⟩; (repeat refine aV rfl ?_); exact br (by exact rfl) hq19
  case b19 => exact bq (by first | rfl | (simp [bT]; done) | decide)
  simp only [bk, bb]
  (refine aa rfl fun K0 V => ?_; simp only [zE, op1, ev, lkp, ag, af, ev, reduceCtorEq, E, D, J, S, M, O, Try.td4, Dfa.av]; refine V _ ?_; clear V K0; simp only [put, app, Z, ae, zE, zS, D])
  refine' aU (want := true) 3 rfl (m := 96) (by simp only [U, lkp, zE, reduceCtorEq, E, Y, D]; exact rfl) (by kernel_rfl) rfl rfl rfl rfl rfl (fun hg20 => ?a20) ?b20 ?c20
  case a20 =>
   have hq20 := hg20; (try simp only [zB, reduceCtorEq] at hg20); simp only [List.take_succ_cons, List.take_zero, List.cons_append, List.nil_append]
   (refine aI rfl fun K0 V => ?_; simp only [zE, op1, ev, lkp, ag, af, ev, reduceCtorEq, E, D, J, S, M, O, Try.td29, Dfa.av]; refine V _ ?_; clear V K0; simp only [put, app, Z, ae, zE, zS, D])
   (refine aI rfl fun K0 V => ?_; simp only [zE, op1, ev, lkp, ag, af, ev, reduceCtorEq, E, D, J, S, M, O, Try.td3, Dfa.av]; refine V _ ?_; clear V K0; simp only [put, app, Z, ae, zE, zS, D])
   (refine aI rfl fun K0 V => ?_; simp only [zE, op1, ev, lkp, ag, af, aC, aE, aD, ar, aA, aP, reduceCtorEq, E, D, J, S, M, O, Try.td3, Try.td4, Dfa.av]; (repeat refine And.intro (by first | omega | assumption | exact rfl) ?_); refine V _ ?_; clear V K0; simp only [put, app, Z, ae, zE, zS, D])
   (refine aa rfl fun K0 V => ?_; simp only [zE, op1, ev, lkp, ag, af, bn, reduceCtorEq, E, D, J, S, M, O, Try.td4, Dfa.av]; refine V _ ?_; clear V K0; simp only [put, app, Z, ae, zE, zS, D])
   refine ai ?_
   refine ⟨by simp only [U, lkp, zE, reduceCtorEq, E, Y, D]; exact rfl, rfl, ?_, rfl⟩; (repeat refine aV rfl ?_); exact br (by exact rfl) hq20
  case b20 => exact bq (by first | rfl | (simp [bT]; done) | decide)
  simp only [bk, bb]
  (refine aa rfl fun K0 V => ?_; simp only [zE, op1, ev, lkp, ag, af, ev, reduceCtorEq, E, D, J, S, M, O, Try.td4, Dfa.av]; refine V _ ?_; clear V K0; simp only [put, app, Z, ae, zE, zS, D])
  refine' aU (want := true) 1 rfl (m := 101) (by simp only [U, lkp, zE, reduceCtorEq, E, Y, D]; exact rfl) (by kernel_rfl) rfl rfl rfl rfl rfl (fun hg21 => ?a21) ?b21 ?c21
  case a21 =>
   have hq21 := hg21; (try simp only [zB, reduceCtorEq] at hg21); simp only [List.take_succ_cons, List.take_zero, List.cons_append, List.nil_append]
   refine aI rfl fun K0 V => ?_
   refine aR (h := az jA) rfl rfl (by first | exact rfl | (simp only [ev, U, lkp, zE, reduceCtorEq, E, Y, D]; exact rfl)) (by simp only [zE, zG, op1, ev, lkp, ag, af, ak, acs, aW, mv1, mvC, Ty.dflt, reduceCtorEq, E, D, J, S, M, O, Dfa.av]) ?_
   refine V _ ?_; clear V K0; simp only [put, app, Z, ae, zE, zS, D]
   (refine aa rfl fun K0 V => ?_; simp only [zE, op1, ev, lkp, ag, af, bn, reduceCtorEq, E, D, J, S, M, O, Try.td4, Dfa.av]; refine V _ ?_; clear V K0; simp only [put, app, Z, ae, zE, zS, D])
   refine ai ?_
   refine ⟨by simp only [U, lkp, zE, reduceCtorEq, E, Y, D]; exact rfl, rfl, ?_, rfl⟩; (repeat refine aV rfl ?_); exact br (by exact rfl) hq21
  case b21 => exact bq (by first | rfl | (simp [bT]; done) | decide)
  simp only [bk, bb]
  (refine aa rfl fun K0 V => ?_; simp only [zE, op1, ev, lkp, ag, af, ev, reduceCtorEq, E, D, J, S, M, O, Try.td4, Dfa.av]; refine V _ ?_; clear V K0; simp only [put, app, Z, ae, zE, zS, D])
  refine ai ?_
  refine ⟨by kernel_rfl, ?_⟩
  refine hK13 _ ?_; clear hK13; refine ad [0, 1, 2, 4, 5, 6, 7, 8, 9, 10, 11, 12, 13, 14, 15, 16, 17, 18, 25] ?_; simp only [U, lkp, zE, reduceCtorEq, E, Y, D]
  refine aF ?_
  refine ⟨by first | exact .inl rfl | exact .inr rfl, _, rfl, ?_⟩; simp only [fzV, fz1, fzC, List.map_cons, List.map_nil, U, lkp, zE, reduceCtorEq, E, Y, D, Dfa.av]
  refine VLE.of_eq ?_
  first | rfl | (refine congrArg (fun b => AV.one (AC.bool b)) ?_; simp [iW, mN]; done)
end Go.Proofs.Ytdkgcbhbpdbmnaa
