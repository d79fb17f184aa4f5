/- Contracts of functions of this seat, each out of a walk through its code, and plain facts on what they compute. Conditions: those that each theorem names. -/
import Derived.Test.YtdkgcbhbpdbmnaaW03
set_option linter.unusedSimpArgs false
set_option linter.unusedVariables false
namespace Go.Proofs.Ytdkgcbhbpdbmnaa
open Go Go.AV
open Nat renaming reduceEqDiff → E, reduceAdd → D, reduceLeDiff → J, reduceLT → U, reduceMul → O, reduceSub → S
open List renaming set_cons_zero → aq, set_cons_succ → am
set_option maxRecDepth 100000 in
set_option maxHeartbeats 1000000 in
theorem mw (m : Mly) (acc : Bool) : bJ Try.prog 33 [m.av, .one (.bool acc)] (.tup [(fmD m acc).av, .one (.int .i64 (fmE m acc))]) := by
 refine aS Try.func33 rfl (by kernel_rfl) (Nat.le_of_ble_eq_true rfl) rfl fun C hP hN hB => ?_
 replace hN : C.N = 33 := hN
 simp only [Z, D]
 refine ab fun K1 hK1 => ?_
 refine ai hP hN rfl ?_
 iterate 3 (refine ad rfl fun K0 V => ?_; simp only [zE, op1, ev, lkp, ah, ag, c0, au, bQ, reduceCtorEq, E, D, J, U, O, S, Try.st25, Try.st58, Try.td25, Try.td29, Try.td58, Mly.av, Dfa.av]; (repeat refine And.intro (by first | omega | assumption | exact rfl) ?_); (first | refine V _ ?_ | refine Or.inl (V _ ?_)); clear V K0; simp only [put, app, aa, af, zE, zS, D])
 refine aj ?_
 refine hK1 _ ?_; clear hK1; refine ae [0, 1, 2, 4, 5] ?_; simp only [Y, lkp, zE, reduceCtorEq, E, Z, D]
 refine ab fun K2 hK2 => ?_
 refine ab fun K3 hK3 => ?_
 refine ai hP hN rfl ?_
 (refine ad rfl fun K0 V => ?_; simp only [zE, op1, ev, lkp, ah, ag, az, Nat.mul_one, ax, ay, acs, Ty.dflt, zG, ao, reduceCtorEq, E, D, J, U, O, S, Try.st58, Try.td58, Mly.av, Dfa.av]; (repeat refine And.intro (by first | omega | assumption | exact rfl) ?_); refine V _ ?_; clear V K0; simp only [put, app, aa, af, zE, zS, D])
 refine ad rfl fun K0 V => ?_
 refine aW (h := aG (mg m)) rfl rfl (by first | exact rfl | (simp only [ev, Y, lkp, zE, reduceCtorEq, E, Z, D]; exact rfl)) (by simp only [zE, zG, op1, ev, lkp, ah, ag, au, acs, ba, mv1, mvC, Ty.dflt, reduceCtorEq, E, D, J, U, O, S, Mly.av, Dfa.av]) ?_
 refine V _ ?_; clear V K0; simp only [put, app, aa, af, zE, zS, D]
 (refine ad rfl fun K0 V => ?_; simp only [zE, op1, ev, lkp, ah, ag, ev, reduceCtorEq, E, D, J, U, O, S, Try.td29, Mly.av, Dfa.av]; refine V _ ?_; clear V K0; simp only [put, app, aa, af, zE, zS, D])
 refine aj ?_
 refine hK3 _ ?_; clear hK3; refine ae [0, 1, 2, 4, 5, 6] ?_; simp only [Y, lkp, zE, reduceCtorEq, E, Z, D]
 refine ab fun K4 hK4 => ?_
 refine ai hP hN rfl ?_
 iterate 2 (refine ad rfl fun K0 V => ?_; simp only [zE, op1, ev, lkp, ah, ag, aE, aC, aD, ar, aB, aN, reduceCtorEq, E, D, J, U, O, S, Try.td29, Try.td4, Mly.av, Dfa.av]; (repeat refine And.intro (by first | omega | assumption | exact rfl) ?_); refine V _ ?_; clear V K0; simp only [put, app, aa, af, zE, zS, D])
 refine aj ?_
 refine hK4 _ ?_; clear hK4; refine ae [0, 1, 2, 4, 5, 6, 12] ?_; simp only [Y, lkp, zE, reduceCtorEq, E, Z, D]
 refine aF (by simp only [ev, Y, lkp, zE, reduceCtorEq, E, Z, D]; exact rfl) (fun hc5 => ?_) (fun hc5 => ?_)
 ·(try simp only [zB, reduceCtorEq] at hc5)
  refine ab fun K6 hK6 => ?_
  refine ai hP hN rfl ?_
  iterate 4 (refine ad rfl fun K0 V => ?_; simp only [zE, op1, ev, lkp, ah, ag, bW, bh, aQ, au, bj, Nat.mul_one, aL, acs, Ty.size, Ty.dflt, zG, reduceCtorEq, E, D, J, U, O, S, Try.st25, Try.td25, Try.td29, Mly.av, Dfa.av]; (repeat refine And.intro (by first | omega | assumption | exact rfl) ?_); (first | refine V _ ?_ | refine Or.inl (V _ ?_)); clear V K0; simp only [put, app, aa, af, zE, zS, D])
  refine aj ?_
  refine hK6 _ ?_; clear hK6; refine ae [0, 1, 2, 4, 5, 6, 12] ?_; simp only [Y, lkp, zE, reduceCtorEq, E, Z, D]
  refine aI ?_
  refine ⟨by first | exact .inl rfl | exact .inr rfl, _, rfl, ?_⟩; simp only [fzV, fz1, fzC, List.map_cons, List.map_nil, Y, lkp, zE, reduceCtorEq, E, Z, D, Mly.av, Dfa.av]
  first
  | (have g9 := p3 (acc := acc) (by assumption); obtain ⟨g1, g2⟩ := g9; rw [g1, g2]; exact bz ⟨bU ⟨.refl _, .refl _, aT rfl, aT rfl, trivial⟩, aR (.refl _), trivial⟩)
  | (have g9 := oM (acc := acc) hv hbig; obtain ⟨g1, g2⟩ := g9; rw [g1, g2]; exact bz ⟨bU ⟨.refl _, .refl _, aT rfl, aT rfl, trivial⟩, aR (.refl _), trivial⟩)
  | (have g9 := jy (acc := acc) hv hbg; obtain ⟨g1, g2⟩ := g9; rw [g1, g2]; exact VLE.of_eq rfl)
 ·(try simp only [zB, reduceCtorEq] at hc5)
  have hv : bl m = 0 := by omega
  have hm := jn hv; have a1 := hm.i1; have a2 := hm.i2; have a3 := hm.n1; have a4 := hm.n2; have a7 := hm.ol
  refine aK ?_
  refine hK2 _ ?_; clear hK2; refine ae [0, 1, 2, 4, 5, 6, 12] ?_; simp only [Y, lkp, zE, reduceCtorEq, E, Z, D]
  refine ab fun K7 hK7 => ?_
  refine ab fun K8 hK8 => ?_
  refine ai hP hN rfl ?_
  (refine ad rfl fun K0 V => ?_; simp only [zE, op1, ev, lkp, ah, ag, az, Nat.mul_one, ax, ay, acs, Ty.dflt, zG, ao, reduceCtorEq, E, D, J, U, O, S, Try.st58, Try.td58, Mly.av, Dfa.av]; (repeat refine And.intro (by first | omega | assumption | exact rfl) ?_); refine V _ ?_; clear V K0; simp only [put, app, aa, af, zE, zS, D])
  refine ad rfl fun K0 V => ?_
  refine aW (h := aG (rI m)) rfl rfl (by first | exact rfl | (simp only [ev, Y, lkp, zE, reduceCtorEq, E, Z, D]; exact rfl)) (by simp only [zE, zG, op1, ev, lkp, ah, ag, au, acs, ba, mv1, mvC, Ty.dflt, reduceCtorEq, E, D, J, U, O, S, Mly.av, Dfa.av]) ?_
  refine V _ ?_; clear V K0; simp only [put, app, aa, af, zE, zS, D]
  refine ad rfl fun K0 V => ?_
  refine aW (h := aG (si (iF m) (lT hv).1)) rfl rfl (by first | exact rfl | (simp only [ev, Y, lkp, zE, reduceCtorEq, E, Z, D]; exact rfl)) (by simp only [zE, zG, op1, ev, lkp, ah, ag, au, acs, ba, mv1, mvC, Ty.dflt, reduceCtorEq, E, D, J, U, O, S, Mly.av, Dfa.av]) ?_
  refine V _ ?_; clear V K0; simp only [put, app, aa, af, zE, zS, D]
  (refine ad rfl fun K0 V => ?_; simp only [zE, op1, ev, lkp, ah, ag, aE, aC, aD, ar, aB, aN, reduceCtorEq, E, D, J, U, O, S, Try.td3, Try.td4, Mly.av, Dfa.av]; (repeat refine And.intro (by first | omega | assumption | exact rfl) ?_); refine V _ ?_; clear V K0; simp only [put, app, aa, af, zE, zS, D])
  refine aj ?_
  refine hK8 _ ?_; clear hK8; refine ae [0, 1, 2, 4, 5, 6, 12, 18] ?_; simp only [Y, lkp, zE, reduceCtorEq, E, Z, D]
  refine aF (by simp only [ev, Y, lkp, zE, reduceCtorEq, E, Z, D]; exact rfl) (fun hc9 => ?_) (fun hc9 => ?_)
  ·(try simp only [zB, reduceCtorEq] at hc9)
   have hbig : dJ m = true := (lT hv).2.1 hc9
   refine ab fun K10 hK10 => ?_
   refine ai hP hN rfl ?_
   iterate 3 (refine ad rfl fun K0 V => ?_; simp only [zE, op1, ev, lkp, ah, ag, bW, bh, aQ, au, bj, Nat.mul_one, aL, acs, Ty.size, Ty.dflt, zG, reduceCtorEq, E, D, J, U, O, S, Try.st25, Try.td25, Try.td29, Mly.av, Dfa.av]; (repeat refine And.intro (by first | omega | assumption | exact rfl) ?_); (first | refine V _ ?_ | refine Or.inl (V _ ?_)); clear V K0; simp only [put, app, aa, af, zE, zS, D])
   refine aj ?_
   refine hK10 _ ?_; clear hK10; refine ae [0, 1, 2, 4, 5, 6, 12, 18] ?_; simp only [Y, lkp, zE, reduceCtorEq, E, Z, D]
   refine aI ?_
   refine ⟨by first | exact .inl rfl | exact .inr rfl, _, rfl, ?_⟩; simp only [fzV, fz1, fzC, List.map_cons, List.map_nil, Y, lkp, zE, reduceCtorEq, E, Z, D, Mly.av, Dfa.av]
   first
   | (have g9 := p3 (acc := acc) (by assumption); obtain ⟨g1, g2⟩ := g9; rw [g1, g2]; exact bz ⟨bU ⟨.refl _, .refl _, aT rfl, aT rfl, trivial⟩, aR (.refl _), trivial⟩)
   | (have g9 := oM (acc := acc) hv hbig; obtain ⟨g1, g2⟩ := g9; rw [g1, g2]; exact bz ⟨bU ⟨.refl _, .refl _, aT rfl, aT rfl, trivial⟩, aR (.refl _), trivial⟩)
   | (have g9 := jy (acc := acc) hv hbg; obtain ⟨g1, g2⟩ := g9; rw [g1, g2]; exact VLE.of_eq rfl)
  ·(try simp only [zB, reduceCtorEq] at hc9)
   have hbg : ¬ dJ m = true := fun h9 => by have h8 := (lT hv).2.2 h9; omega
   refine aK ?_
   refine hK7 _ ?_; clear hK7; refine ae [0, 1, 2, 4, 5, 6, 12, 18] ?_; simp only [Y, lkp, zE, reduceCtorEq, E, Z, D]
   refine ab fun K11 hK11 => ?_
   refine ai hP hN rfl ?_
   iterate 5 (refine ad rfl fun K0 V => ?_; simp only [zE, op1, ev, lkp, ah, ag, aw, az, Nat.mul_one, ax, ay, acs, Ty.dflt, zG, ao, bW, bh, aQ, au, bQ, bj, aL, Ty.size, reduceCtorEq, E, D, J, U, O, S, Try.ea81, Try.sa81, Try.st58, Try.td1, Try.td3, Try.td58, Try.td81, Mly.av, Dfa.av]; (repeat refine And.intro (by first | omega | assumption | exact rfl) ?_); (first | refine V _ ?_ | refine Or.inl (V _ ?_)); clear V K0; simp only [put, app, aa, af, zE, zS, D])
   refine aj ?_
   refine hK11 _ ?_; clear hK11; refine ae [0, 1, 2, 4, 5, 6, 7, 12, 18] ?_; simp only [Y, lkp, zE, reduceCtorEq, E, Z, D]
   refine ab fun K12 hK12 => ?_
   refine ab fun K13 hK13 => ?_
   refine ai hP hN rfl ?_
   (refine ad rfl fun K0 V => ?_; simp only [zE, op1, ev, lkp, ah, ag, ev, reduceCtorEq, E, D, J, U, O, S, Try.td4, Mly.av, Dfa.av]; refine V _ ?_; clear V K0; simp only [put, app, aa, af, zE, zS, D])
   refine aj ?_
   refine hK13 _ ?_; clear hK13; refine ae [0, 1, 2, 4, 5, 6, 7, 12, 18, 23] ?_; simp only [Y, lkp, zE, reduceCtorEq, E, Z, D]
   refine aF (by simp only [ev, Y, lkp, zE, reduceCtorEq, E, Z, D]; exact rfl) (fun hc14 => ?_) (fun hc14 => ?_)
   ·(try simp only [zB, reduceCtorEq] at hc14)
    have hbi : bI1 acc = 1 := by have h9 := hc14; rw [h9]; rfl
    refine ai hP hN rfl ?_
    iterate 2 (refine ad rfl fun K0 V => ?_; simp only [zE, op1, ev, lkp, ah, ag, aJ, zG, Ty.dflt, Ty.size, Nat.mul_one, ne_eq, not_false_eq_true, Int.natCast_one, Int.mul_one, bj, au, aQ, aL, acs, reduceCtorEq, E, D, J, U, O, S, Try.ea81, Try.sa81, Try.td3, Try.td81, Mly.av, Dfa.av]; (repeat refine And.intro (by first | omega | assumption | exact rfl) ?_); refine V _ ?_; clear V K0; simp only [put, app, aa, af, zE, zS, D, Int.toNat_one, List.take_succ_cons, List.take_zero, List.drop_succ_cons, List.drop_zero, List.cons_append, List.nil_append])
    refine aj ?_
    refine hK12 _ ?_; clear hK12; refine ae [0, 1, 2, 4, 5, 6, 7, 12, 18, 23] ?_; simp only [Y, lkp, zE, reduceCtorEq, E, Z, D]
    refine ab fun K15 hK15 => ?_
    refine cv 0 (.pair (.int .i64) (.pair (.int .i64) (.pair (.list (.list (.int .i64))) (.pair (.list (.list (.int .i64))) .unit)))) rfl rfl ?_; simp only [List.map_cons, List.map_nil, shV, if_true, zS, if_false, eq_self, E, reduceCtorEq, Nat.one_ne_zero, Nat.zero_ne_one]
    refine ai hP hN rfl ?_
    iterate 2 (refine ad rfl fun K0 V => ?_; simp only [zE, op1, ev, lkp, ah, ag, cp, cK, di, reduceCtorEq, E, D, J, U, O, S, Try.td82, Mly.av, Dfa.av]; (repeat refine And.intro (by first | omega | assumption | exact rfl) ?_); (first | refine V _ ?_ | refine Or.inl (V _ ?_)); clear V K0; simp only [put, app, aa, af, zE, zS, D])
    refine aj ?_
    refine hK15 _ ?_; clear hK15; refine ae [0, 1, 2, 4, 5, 6, 7, 8, 12, 18, 23] ?_; simp only [Y, lkp, zE, reduceCtorEq, E, Z, D]
    refine ab fun K16 hK16 => ?_
    refine ai hP hN rfl ?_
    iterate 4 (refine ad rfl fun K0 V => ?_; simp only [zE, op1, ev, lkp, ah, ag, az, Nat.mul_one, ax, ay, acs, Ty.dflt, zG, ao, aw, reduceCtorEq, E, D, J, U, O, S, Try.ea81, Try.sa81, Try.st58, Try.td3, Try.td58, Try.td81, Try.td82, Mly.av, Dfa.av]; (repeat refine And.intro (by first | omega | assumption | exact rfl) ?_); refine V _ ?_; clear V K0; simp only [put, app, aa, af, zE, zS, D])
    refine ad rfl fun K0 V => ?_
    refine aW (h := aG (gv m.inp.toNat 71 72 [.pat (.pair (.int .i64) (.pair (.int .i64) (.pair (.list (.list (.int .i64))) (.pair (.list (.list (.int .i64))) .unit)))) (m.inp, (m.st, (m.nx, (m.ot, ()))))] [] (fK m) gB (m.st, bI1 acc) m.nx.length 2 m.inp (by omega) rfl rfl (by omega) (by omega) (by omega) (by omega) (lX hm acc) (jI hm hbg (by omega)) (fun q x hq hx => oN m q x hm hq (by omega)) (fun q hq => ou q))) rfl rfl (by first | exact rfl | (simp only [ev, Y, lkp, zE, reduceCtorEq, E, Z, D]; exact rfl)) (by simp only [zE, zG, op1, ev, lkp, ah, ag, au, acs, ba, mv1, mvC, Ty.dflt, reduceCtorEq, E, D, J, U, O, S, Mly.av, Dfa.av, hbi]) ?_
    refine V _ ?_; clear V K0; simp only [put, app, aa, af, zE, zS, D]
    iterate 4 (refine ad rfl fun K0 V => ?_; simp only [zE, op1, ev, lkp, ah, ag, bI, bj, Nat.mul_one, au, aQ, aL, acs, Ty.size, Ty.dflt, zG, reduceCtorEq, E, D, J, U, O, S, Try.st25, Try.td1, Try.td25, Try.td29, Mly.av, Dfa.av]; (repeat refine And.intro (by first | omega | assumption | exact rfl) ?_); refine V _ ?_; clear V K0; simp only [put, app, aa, af, zE, zS, D])
    refine aj ?_
    refine hK16 _ ?_; clear hK16; refine ae [0, 1, 2, 4, 5, 6, 7, 8, 12, 18, 23] ?_; simp only [Y, lkp, zE, reduceCtorEq, E, Z, D]
    refine aI ?_
    refine ⟨by first | exact .inl rfl | exact .inr rfl, _, rfl, ?_⟩; simp only [fzV, fz1, fzC, List.map_cons, List.map_nil, Y, lkp, zE, reduceCtorEq, E, Z, D, Mly.av, Dfa.av]
    first
    | (have g9 := p3 (acc := acc) (by assumption); obtain ⟨g1, g2⟩ := g9; rw [g1, g2]; exact bz ⟨bU ⟨.refl _, .refl _, aT rfl, aT rfl, trivial⟩, aR (.refl _), trivial⟩)
    | (have g9 := oM (acc := acc) hv hbig; obtain ⟨g1, g2⟩ := g9; rw [g1, g2]; exact bz ⟨bU ⟨.refl _, .refl _, aT rfl, aT rfl, trivial⟩, aR (.refl _), trivial⟩)
    | (have g9 := jy (acc := acc) hv hbg; obtain ⟨g1, g2⟩ := g9; rw [g1, g2]; exact VLE.of_eq rfl)
   ·(try simp only [zB, reduceCtorEq] at hc14)
    have hbi : bI1 acc = 0 := by have h9 := hc14; rw [h9]; rfl
    refine aK ?_
    refine hK12 _ ?_; clear hK12; refine ae [0, 1, 2, 4, 5, 6, 7, 12, 18, 23] ?_; simp only [Y, lkp, zE, reduceCtorEq, E, Z, D]
    refine ab fun K17 hK17 => ?_
    refine cv 0 (.pair (.int .i64) (.pair (.int .i64) (.pair (.list (.list (.int .i64))) (.pair (.list (.list (.int .i64))) .unit)))) rfl rfl ?_; simp only [List.map_cons, List.map_nil, shV, if_true, zS, if_false, eq_self, E, reduceCtorEq, Nat.one_ne_zero, Nat.zero_ne_one]
    refine ai hP hN rfl ?_
    iterate 2 (refine ad rfl fun K0 V => ?_; simp only [zE, op1, ev, lkp, ah, ag, cp, cK, di, reduceCtorEq, E, D, J, U, O, S, Try.td82, Mly.av, Dfa.av]; (repeat refine And.intro (by first | omega | assumption | exact rfl) ?_); (first | refine V _ ?_ | refine Or.inl (V _ ?_)); clear V K0; simp only [put, app, aa, af, zE, zS, D])
    refine aj ?_
    refine hK17 _ ?_; clear hK17; refine ae [0, 1, 2, 4, 5, 6, 7, 8, 12, 18, 23] ?_; simp only [Y, lkp, zE, reduceCtorEq, E, Z, D]
    refine ab fun K18 hK18 => ?_
    refine ai hP hN rfl ?_
    iterate 4 (refine ad rfl fun K0 V => ?_; simp only [zE, op1, ev, lkp, ah, ag, az, Nat.mul_one, ax, ay, acs, Ty.dflt, zG, ao, aw, reduceCtorEq, E, D, J, U, O, S, Try.ea81, Try.sa81, Try.st58, Try.td3, Try.td58, Try.td81, Try.td82, Mly.av, Dfa.av]; (repeat refine And.intro (by first | omega | assumption | exact rfl) ?_); refine V _ ?_; clear V K0; simp only [put, app, aa, af, zE, zS, D])
    refine ad rfl fun K0 V => ?_
    refine aW (h := aG (gv m.inp.toNat 71 72 [.pat (.pair (.int .i64) (.pair (.int .i64) (.pair (.list (.list (.int .i64))) (.pair (.list (.list (.int .i64))) .unit)))) (m.inp, (m.st, (m.nx, (m.ot, ()))))] [] (fK m) gB (m.st, bI1 acc) m.nx.length 2 m.inp (by omega) rfl rfl (by omega) (by omega) (by omega) (by omega) (lX hm acc) (jI hm hbg (by omega)) (fun q x hq hx => oN m q x hm hq (by omega)) (fun q hq => ou q))) rfl rfl (by first | exact rfl | (simp only [ev, Y, lkp, zE, reduceCtorEq, E, Z, D]; exact rfl)) (by simp only [zE, zG, op1, ev, lkp, ah, ag, au, acs, ba, mv1, mvC, Ty.dflt, reduceCtorEq, E, D, J, U, O, S, Mly.av, Dfa.av, hbi]) ?_
    refine V _ ?_; clear V K0; simp only [put, app, aa, af, zE, zS, D]
    iterate 4 (refine ad rfl fun K0 V => ?_; simp only [zE, op1, ev, lkp, ah, ag, bI, bj, Nat.mul_one, au, aQ, aL, acs, Ty.size, Ty.dflt, zG, reduceCtorEq, E, D, J, U, O, S, Try.st25, Try.td1, Try.td25, Try.td29, Mly.av, Dfa.av]; (repeat refine And.intro (by first | omega | assumption | exact rfl) ?_); refine V _ ?_; clear V K0; simp only [put, app, aa, af, zE, zS, D])
    refine aj ?_
    refine hK18 _ ?_; clear hK18; refine ae [0, 1, 2, 4, 5, 6, 7, 8, 12, 18, 23] ?_; simp only [Y, lkp, zE, reduceCtorEq, E, Z, D]
    refine aI ?_
    refine ⟨by first | exact .inl rfl | exact .inr rfl, _, rfl, ?_⟩; simp only [fzV, fz1, fzC, List.map_cons, List.map_nil, Y, lkp, zE, reduceCtorEq, E, Z, D, Mly.av, Dfa.av]
    first
    | (have g9 := p3 (acc := acc) (by assumption); obtain ⟨g1, g2⟩ := g9; rw [g1, g2]; exact bz ⟨bU ⟨.refl _, .refl _, aT rfl, aT rfl, trivial⟩, aR (.refl _), trivial⟩)
    | (have g9 := oM (acc := acc) hv hbig; obtain ⟨g1, g2⟩ := g9; rw [g1, g2]; exact bz ⟨bU ⟨.refl _, .refl _, aT rfl, aT rfl, trivial⟩, aR (.refl _), trivial⟩)
    | (have g9 := jy (acc := acc) hv hbg; obtain ⟨g1, g2⟩ := g9; rw [g1, g2]; exact VLE.of_eq rfl)
end Go.Proofs.Ytdkgcbhbpdbmnaa
namespace Go.Proofs.Ytdkgcbhbpdbmnaa
open Go Go.AV
open Nat renaming reduceEqDiff → E, reduceAdd → D, reduceLeDiff → J, reduceLT → U, reduceMul → O, reduceSub → S
open List renaming set_cons_zero → aq, set_cons_succ → am
set_option maxRecDepth 100000 in
theorem sU (xs ys : List Int) : bJ Try.prog 92 [.one (.list (.int .i64) xs), .one (.list (.int .i64) ys)] (.one (.bool (decide (xs = ys)))) := by
 refine aS Try.func92 rfl (by kernel_rfl) (Nat.le_of_ble_eq_true rfl) rfl fun C hP hN hB => ?_
 replace hN : C.N = 26 := hN
 simp only [Z, D]
 refine dV 0 rfl fun hf0 => ?_; simp only [lkp, if_true, if_false, reduceCtorEq, E, eq_self, Nat.one_ne_zero, Nat.zero_ne_one, gK, gd, fU, Fit, and_true, implies_true, true_and] at hf0
 refine ab fun K1 hK1 => ?_
 refine ai hP hN rfl ?_
 (refine ad rfl fun K0 V => ?_; simp only [zE, op1, ev, lkp, ah, ag, ev, reduceCtorEq, E, D, J, U, O, S, Try.td4]; refine V _ ?_; clear V K0; simp only [put, app, aa, af, zE, zS, D])
 refine aj ?_
 refine hK1 _ ?_; clear hK1; refine ae [0, 1, 4] ?_; simp only [Y, lkp, zE, reduceCtorEq, E, Z, D]
 refine ab fun K2 hK2 => ?_
 refine ab fun K3 hK3 => ?_
 refine ai hP hN rfl ?_
 iterate 5 (refine ad rfl fun K0 V => ?_; simp only [zE, op1, ev, lkp, ah, ag, aH, bu, bb, aY, aZ, br, Nat.div_one, aM, b0, Ty.size, aL, dite_true, aE, aC, aD, ar, aB, aN, reduceCtorEq, E, D, J, U, O, S, Try.el26, Try.td26, Try.td3, Try.td4]; (repeat refine And.intro (by first | omega | assumption | exact rfl) ?_); (first | refine V _ ?_ | refine Or.inl (V _ ?_)); clear V K0; simp only [put, app, aa, af, zE, zS, D])
 refine aj ?_
 refine hK3 _ ?_; clear hK3; refine ae [0, 1, 4, 10] ?_; simp only [Y, lkp, zE, reduceCtorEq, E, Z, D]
 refine aF (by simp only [ev, Y, lkp, zE, reduceCtorEq, E, Z, D]; exact rfl) (fun hc4 => ?_) (fun hc4 => ?_)
 ·(try simp only [zB, reduceCtorEq] at hc4)
  refine ab fun K5 hK5 => ?_
  refine ai hP hN rfl ?_
  (refine ad rfl fun K0 V => ?_; simp only [zE, op1, ev, lkp, ah, ag, ev, reduceCtorEq, E, D, J, U, O, S, Try.td4]; refine V _ ?_; clear V K0; simp only [put, app, aa, af, zE, zS, D])
  refine aj ?_
  refine hK5 _ ?_; clear hK5; refine ae [0, 1, 4, 10] ?_; simp only [Y, lkp, zE, reduceCtorEq, E, Z, D]
  refine aI ?_
  refine ⟨by first | exact .inl rfl | exact .inr rfl, _, rfl, ?_⟩; simp only [fzV, fz1, fzC, List.map_cons, List.map_nil, Y, lkp, zE, reduceCtorEq, E, Z, D]
  refine VLE.of_eq ?_
  first
  | (refine fN ?_; rintro rfl; first | exact absurd rfl ‹¬ _› | omega)
  | (refine gV ?_; have hk1 : k = xs.length := by omega
     have hk2 : k = ys.length := by omega
     rw [hk1, List.take_length, ← hk1, hk2, List.take_length] at hT; exact hT)
 ·(try simp only [zB, reduceCtorEq] at hc4)
  refine aK ?_
  refine hK2 _ ?_; clear hK2; refine ae [0, 1, 4, 10] ?_; simp only [Y, lkp, zE, reduceCtorEq, E, Z, D]
  refine ab fun K6 hK6 => ?_
  refine ab fun K7 hK7 => ?_
  refine ai hP hN rfl ?_
  iterate 3 (refine ad rfl fun K0 V => ?_; simp only [zE, op1, ev, lkp, ah, ag, aH, bu, bb, aY, aZ, br, Nat.div_one, aM, b0, Ty.size, aL, dite_true, reduceCtorEq, E, D, J, U, O, S, Try.el26, Try.td26, Try.td3]; (repeat refine And.intro (by first | omega | assumption | exact rfl) ?_); (first | refine V _ ?_ | refine Or.inl (V _ ?_)); clear V K0; simp only [put, app, aa, af, zE, zS, D])
  refine aj ?_
  refine hK7 _ ?_; clear hK7; refine ae [0, 1, 4, 10, 12, 13] ?_; simp only [Y, lkp, zE, reduceCtorEq, E, Z, D]
  refine aP ?_
  refine bG (fun n8 s8 => ∃ (k : Nat), (k ≤ xs.length) ∧ (xs.take k = ys.take k) ∧ n8 = xs.length - k ∧ s8 = { env := [(0, .one (.list (.int .i64) xs)), (1, .one (.list (.int .i64) ys)), (12, .one (.int .i64 (xs.length : Int))), (13, .one (.int .i64 (k : Int)))], L := [] }) ?_ ?_
  ·exact ⟨_, _, aO [0, 1, 12, 13], 0, Nat.zero_le _, rfl, rfl, rfl⟩
  ·rintro n8 s8 ⟨k, hk, hT, rfl, rfl⟩
   refine ab fun K9 hK9 => ?_
   refine ai hP hN rfl ?_
   (refine ad rfl fun K0 V => ?_; simp only [zE, op1, ev, lkp, ah, ag, aE, aC, aD, ar, aB, aN, reduceCtorEq, E, D, J, U, O, S, Try.td3]; (repeat refine And.intro (by first | omega | assumption | exact rfl) ?_); refine V _ ?_; clear V K0; simp only [put, app, aa, af, zE, zS, D])
   refine aj ?_
   refine hK9 _ ?_; clear hK9; refine ae [0, 1, 12, 13, 14] ?_; simp only [Y, lkp, zE, reduceCtorEq, E, Z, D]
   refine ab fun K10 hK10 => ?_
   refine aF (by simp only [ev, Y, lkp, zE, reduceCtorEq, E, Z, D]; exact rfl) (fun hc11 => ?_) (fun hc11 => ?_)
   ·(try simp only [zB, reduceCtorEq] at hc11)
    refine aK ?_
    refine hK10 _ ?_; clear hK10; refine ae [0, 1, 12, 13, 14] ?_; simp only [Y, lkp, zE, reduceCtorEq, E, Z, D]
    refine ab fun K12 hK12 => ?_
    refine aP ?_
    refine ab fun K13 hK13 => ?_
    refine ai hP hN rfl ?_
    iterate 2 (refine ad rfl fun K0 V => ?_; simp only [zE, op1, ev, lkp, ah, ag, ev, reduceCtorEq, E, D, J, U, O, S, Try.td3]; refine V _ ?_; clear V K0; simp only [put, app, aa, af, zE, zS, D])
    refine aj ?_
    refine hK13 _ ?_; clear hK13; refine ae [0, 1, 5, 12, 13, 14] ?_; simp only [Y, lkp, zE, reduceCtorEq, E, Z, D]
    refine ab fun K14 hK14 => ?_
    refine bY hP hN Try.mixed rfl ?_
    iterate 9 (refine ad rfl fun K0 V => ?_; simp only [zE, op1, ev, lkp, ah, ag, aJ, zG, Ty.dflt, Ty.size, Nat.mul_one, ne_eq, not_false_eq_true, Int.natCast_one, Int.mul_one, az, ax, ay, acs, ao, aE, aC, aD, ar, aB, aN, reduceCtorEq, E, D, J, U, O, S, Try.el26, Try.td26, Try.td3, Try.td4]; (repeat refine And.intro (by first | omega | assumption | exact rfl) ?_); refine V _ ?_; clear V K0; simp only [put, app, aa, af, zE, zS, D])
    refine aj ?_
    refine ⟨by kernel_rfl, ?_⟩
    refine hK14 _ ?_; clear hK14; refine ae [0, 1, 5, 12, 13, 14, 24] ?_; simp only [Y, lkp, zE, reduceCtorEq, E, Z, D]
    refine aF (by simp only [ev, Y, lkp, zE, reduceCtorEq, E, Z, D]; exact rfl) (fun hc15 => ?_) (fun hc15 => ?_)
    ·(try simp only [zB, reduceCtorEq] at hc15)
     refine ab fun K16 hK16 => ?_
     refine ai hP hN rfl ?_
     (refine ad rfl fun K0 V => ?_; simp only [zE, op1, ev, lkp, ah, ag, ev, reduceCtorEq, E, D, J, U, O, S, Try.td4]; refine V _ ?_; clear V K0; simp only [put, app, aa, af, zE, zS, D])
     refine aj ?_
     refine hK16 _ ?_; clear hK16; refine ae [0, 1, 4, 5, 12, 13, 14, 24] ?_; simp only [Y, lkp, zE, reduceCtorEq, E, Z, D]
     refine aI ?_
     refine ⟨by first | exact .inl rfl | exact .inr rfl, _, rfl, ?_⟩; simp only [fzV, fz1, fzC, List.map_cons, List.map_nil, Y, lkp, zE, reduceCtorEq, E, Z, D]
     refine VLE.of_eq ?_
     first
     | (refine fN ?_; rintro rfl; first | exact absurd rfl ‹¬ _› | omega)
     | (refine gV ?_; have hk1 : k = xs.length := by omega
        have hk2 : k = ys.length := by omega
        rw [hk1, List.take_length, ← hk1, hk2, List.take_length] at hT; exact hT)
    ·(try simp only [zB, reduceCtorEq] at hc15)
     refine aK ?_
     refine hK12 _ ?_; clear hK12; refine ae [0, 1, 5, 12, 13, 14, 24] ?_; simp only [Y, lkp, zE, reduceCtorEq, E, Z, D]
     refine ai hP hN rfl ?_
     iterate 2 (refine ad rfl fun K0 V => ?_; simp only [zE, op1, ev, lkp, ah, ag, aE, aC, aD, ar, aB, aN, reduceCtorEq, E, D, J, U, O, S, Try.td3]; (repeat refine And.intro (by first | omega | assumption | exact rfl) ?_); refine V _ ?_; clear V K0; simp only [put, app, aa, af, zE, zS, D])
     refine aj ?_
     refine ⟨_, _, ?_, aO [0, 1, 12, 13], k + 1, by omega, kz (d := 0) hT (by omega) (by omega) ?_, rfl, rfl⟩
     · omega
     · first | assumption | omega
   ·(try simp only [zB, reduceCtorEq] at hc11)
    refine bD ?_
    refine hK6 _ ?_; clear hK6; refine ae [0, 1, 12, 13, 14] ?_; simp only [Y, lkp, zE, reduceCtorEq, E, Z, D]
    refine ab fun K17 hK17 => ?_
    refine ai hP hN rfl ?_
    (refine ad rfl fun K0 V => ?_; simp only [zE, op1, ev, lkp, ah, ag, ev, reduceCtorEq, E, D, J, U, O, S, Try.td4]; refine V _ ?_; clear V K0; simp only [put, app, aa, af, zE, zS, D])
    refine aj ?_
    refine hK17 _ ?_; clear hK17; refine ae [0, 1, 4, 12, 13, 14] ?_; simp only [Y, lkp, zE, reduceCtorEq, E, Z, D]
    refine aI ?_
    refine ⟨by first | exact .inl rfl | exact .inr rfl, _, rfl, ?_⟩; simp only [fzV, fz1, fzC, List.map_cons, List.map_nil, Y, lkp, zE, reduceCtorEq, E, Z, D]
    refine VLE.of_eq ?_
    first
    | (refine fN ?_; rintro rfl; first | exact absurd rfl ‹¬ _› | omega)
    | (refine gV ?_; have hk1 : k = xs.length := by omega
       have hk2 : k = ys.length := by omega
       rw [hk1, List.take_length, ← hk1, hk2, List.take_length] at hT; exact hT)
end Go.Proofs.Ytdkgcbhbpdbmnaa
namespace Go.Proofs.Ytdkgcbhbpdbmnaa
open Go Go.AV
open Nat renaming reduceEqDiff → E, reduceAdd → D, reduceLeDiff → J, reduceLT → U, reduceMul → O, reduceSub → S
open List renaming set_cons_zero → aq, set_cons_succ → am
set_option maxRecDepth 100000 in
theorem qD (x y : List Int) : bJ Try.prog 91 [.one (.list (.int .i64) y), .one (.pat (.list (.int .i64)) x 0)] (.one (.bool (decide (x = y)))) := by
 refine aS Try.func91 rfl (by kernel_rfl) (Nat.le_of_ble_eq_true rfl) rfl fun C hP hN hB => ?_
 replace hN : C.N = 7 := hN
 simp only [Z, D]
 refine ab fun K1 hK1 => ?_
 refine ai hP hN rfl ?_
 (refine ad rfl fun K0 V => ?_; simp only [zE, op1, ev, lkp, ah, ag, ev, reduceCtorEq, E, D, J, U, O, S, Try.td4]; refine V _ ?_; clear V K0; simp only [put, app, aa, af, zE, zS, D])
 refine aj ?_
 refine hK1 _ ?_; clear hK1; refine ae [0, 1, 3] ?_; simp only [Y, lkp, zE, reduceCtorEq, E, Z, D]
 refine ab fun K2 hK2 => ?_
 refine ai hP hN rfl ?_
 iterate 2 (refine ad rfl fun K0 V => ?_; simp only [zE, op1, ev, lkp, ah, ag, az, Nat.mul_one, ax, ay, acs, Ty.dflt, zG, ao, reduceCtorEq, E, D, J, U, O, S, Try.el26, Try.td26]; (repeat refine And.intro (by first | omega | assumption | exact rfl) ?_); refine V _ ?_; clear V K0; simp only [put, app, aa, af, zE, zS, D])
 refine ad rfl fun K0 V => ?_
 refine aW (h := aG (sU x y)) rfl rfl (by first | exact rfl | (simp only [ev, Y, lkp, zE, reduceCtorEq, E, Z, D]; exact rfl)) (by simp only [zE, zG, op1, ev, lkp, ah, ag, au, acs, ba, mv1, mvC, Ty.dflt, reduceCtorEq, E, D, J, U, O, S]) ?_
 refine V _ ?_; clear V K0; simp only [put, app, aa, af, zE, zS, D]
 (refine ad rfl fun K0 V => ?_; simp only [zE, op1, ev, lkp, ah, ag, ev, reduceCtorEq, E, D, J, U, O, S, Try.td4]; refine V _ ?_; clear V K0; simp only [put, app, aa, af, zE, zS, D])
 refine aj ?_
 refine hK2 _ ?_; clear hK2; refine ae [0, 1, 3] ?_; simp only [Y, lkp, zE, reduceCtorEq, E, Z, D]
 refine aI ?_
 refine ⟨by first | exact .inl rfl | exact .inr rfl, _, rfl, ?_⟩; simp only [fzV, fz1, fzC, List.map_cons, List.map_nil, Y, lkp, zE, reduceCtorEq, E, Z, D]
 refine VLE.of_eq ?_
 rfl
end Go.Proofs.Ytdkgcbhbpdbmnaa
namespace Go.Proofs.Ytdkgcbhbpdbmnaa
open Go Go.AV
open Nat renaming reduceEqDiff → E, reduceAdd → D, reduceLeDiff → J, reduceLT → U, reduceMul → O, reduceSub → S
open List renaming set_cons_zero → aq, set_cons_succ → am
set_option maxRecDepth 100000 in
theorem sh (xs : List (List Int)) (x : List Int) : bJ Try.prog 90 [.one (.list (.list (.int .i64)) xs), .one (.fn 91 [.pat (.list (.int .i64)) x])] (.one (.int .i64 (ixL xs x))) := by
 refine aS Try.func90 rfl (by kernel_rfl) (Nat.le_of_ble_eq_true rfl) rfl fun C hP hN hB => ?_
 replace hN : C.N = 19 := hN
 simp only [Z, D]
 refine dV 0 rfl fun hf0 => ?_; simp only [lkp, if_true, if_false, reduceCtorEq, E, eq_self, Nat.one_ne_zero, Nat.zero_ne_one, gK, gd, fU, Fit, and_true, implies_true, true_and] at hf0
 refine ab fun K1 hK1 => ?_
 refine ai hP hN rfl ?_
 (refine ad rfl fun K0 V => ?_; simp only [zE, op1, ev, lkp, ah, ag, ev, reduceCtorEq, E, D, J, U, O, S, Try.td3]; refine V _ ?_; clear V K0; simp only [put, app, aa, af, zE, zS, D])
 refine aj ?_
 refine hK1 _ ?_; clear hK1; refine ae [0, 1, 4] ?_; simp only [Y, lkp, zE, reduceCtorEq, E, Z, D]
 refine ab fun K2 hK2 => ?_
 refine ab fun K3 hK3 => ?_
 refine ai hP hN rfl ?_
 iterate 3 (refine ad rfl fun K0 V => ?_; simp only [zE, op1, ev, lkp, ah, ag, aH, bu, bb, aY, aZ, br, Nat.div_one, aM, b0, Ty.size, aL, dite_true, reduceCtorEq, E, D, J, U, O, S, Try.el22, Try.td22, Try.td3]; (repeat refine And.intro (by first | omega | assumption | exact rfl) ?_); (first | refine V _ ?_ | refine Or.inl (V _ ?_)); clear V K0; simp only [put, app, aa, af, zE, zS, D])
 refine aj ?_
 refine hK3 _ ?_; clear hK3; refine ae [0, 1, 4, 7, 8] ?_; simp only [Y, lkp, zE, reduceCtorEq, E, Z, D]
 refine aP ?_
 refine bG (fun n4 s4 => ∃ (k : Nat), (k ≤ xs.length) ∧ (∀ q, q < k → xs.getD q [] ≠ x) ∧ n4 = xs.length - k ∧ s4 = { env := [(0, .one (.list (.list (.int .i64)) xs)), (1, .one (.fn 91 [.pat (.list (.int .i64)) x])), (4, .one (.int .i64 0)), (7, .one (.int .i64 (xs.length : Int))), (8, .one (.int .i64 (k : Int)))], L := [] }) ?_ ?_
 ·exact ⟨_, _, aO [0, 1, 4, 7, 8], 0, Nat.zero_le _, fun q hq => by omega, rfl, rfl⟩
 ·rintro n4 s4 ⟨k, hk, hq, rfl, rfl⟩
  refine ab fun K5 hK5 => ?_
  refine ai hP hN rfl ?_
  (refine ad rfl fun K0 V => ?_; simp only [zE, op1, ev, lkp, ah, ag, aE, aC, aD, ar, aB, aN, reduceCtorEq, E, D, J, U, O, S, Try.td3]; (repeat refine And.intro (by first | omega | assumption | exact rfl) ?_); refine V _ ?_; clear V K0; simp only [put, app, aa, af, zE, zS, D])
  refine aj ?_
  refine hK5 _ ?_; clear hK5; refine ae [0, 1, 4, 7, 8, 9] ?_; simp only [Y, lkp, zE, reduceCtorEq, E, Z, D]
  refine ab fun K6 hK6 => ?_
  refine aF (by simp only [ev, Y, lkp, zE, reduceCtorEq, E, Z, D]; exact rfl) (fun hc7 => ?_) (fun hc7 => ?_)
  ·(try simp only [zB, reduceCtorEq] at hc7)
   refine aK ?_
   refine hK6 _ ?_; clear hK6; refine ae [0, 1, 4, 7, 8, 9] ?_; simp only [Y, lkp, zE, reduceCtorEq, E, Z, D]
   refine ab fun K8 hK8 => ?_
   refine aP ?_
   refine ab fun K9 hK9 => ?_
   refine ai hP hN rfl ?_
   iterate 2 (refine ad rfl fun K0 V => ?_; simp only [zE, op1, ev, lkp, ah, ag, ev, reduceCtorEq, E, D, J, U, O, S, Try.td3]; refine V _ ?_; clear V K0; simp only [put, app, aa, af, zE, zS, D])
   refine aj ?_
   refine hK9 _ ?_; clear hK9; refine ae [0, 1, 4, 5, 7, 8, 9] ?_; simp only [Y, lkp, zE, reduceCtorEq, E, Z, D]
   refine ab fun K10 hK10 => ?_
   refine ai hP hN rfl ?_
   iterate 5 (refine ad rfl fun K0 V => ?_; simp only [zE, op1, ev, lkp, ah, ag, aJ, zG, Ty.dflt, Ty.size, Nat.mul_one, ne_eq, not_false_eq_true, Int.natCast_one, Int.mul_one, az, ax, ay, acs, ao, reduceCtorEq, E, D, J, U, O, S, Try.el22, Try.el26, Try.td121, Try.td22, Try.td26, Try.td3]; (repeat refine And.intro (by first | omega | assumption | exact rfl) ?_); refine V _ ?_; clear V K0; simp only [put, app, aa, af, zE, zS, D])
   refine ad rfl fun K0 V => ?_
   refine aW (h := aG (qD x (xs.getD k []))) rfl rfl (by first | exact rfl | (simp only [ev, Y, lkp, zE, reduceCtorEq, E, Z, D]; exact rfl)) (by simp only [zE, zG, op1, ev, lkp, ah, ag, au, acs, ba, mv1, mvC, Ty.dflt, reduceCtorEq, E, D, J, U, O, S]) ?_
   refine V _ ?_; clear V K0; simp only [put, app, aa, af, zE, zS, D]
   refine aj ?_
   refine hK10 _ ?_; clear hK10; refine ae [0, 1, 4, 5, 7, 8, 9, 16] ?_; simp only [Y, lkp, zE, reduceCtorEq, E, Z, D]
   refine aF (by simp only [ev, Y, lkp, zE, reduceCtorEq, E, Z, D]; exact rfl) (fun hc11 => ?_) (fun hc11 => ?_)
   ·(try simp only [zB, reduceCtorEq] at hc11)
    have he9 : xs.getD k [] = x := by have h9 := hc11; simpa using h9.symm
    refine ab fun K12 hK12 => ?_
    refine ai hP hN rfl ?_
    iterate 2 (refine ad rfl fun K0 V => ?_; simp only [zE, op1, ev, lkp, ah, ag, ev, reduceCtorEq, E, D, J, U, O, S, Try.td3]; refine V _ ?_; clear V K0; simp only [put, app, aa, af, zE, zS, D])
    refine aj ?_
    refine hK12 _ ?_; clear hK12; refine ae [0, 1, 4, 5, 7, 8, 9, 16] ?_; simp only [Y, lkp, zE, reduceCtorEq, E, Z, D]
    refine aI ?_
    refine ⟨by first | exact .inl rfl | exact .inr rfl, _, rfl, ?_⟩; simp only [fzV, fz1, fzC, List.map_cons, List.map_nil, Y, lkp, zE, reduceCtorEq, E, Z, D]
    refine VLE.of_eq ?_
    refine congrArg (fun n => AV.one (AC.int IntKind.i64 n)) ?_
    symm
    first
    | (have h9 := rH hq (by omega) he9; obtain ⟨g1, g2⟩ := h9; rw [iq g2, g1]; done)
    | exact kp (mM (dv := []) fun j hj => hq j (by omega))
   ·(try simp only [zB, reduceCtorEq] at hc11)
    have hne : xs.getD k [] ≠ x := by have h9 := hc11; intro e; rw [e] at h9; simp at h9
    refine aK ?_
    refine hK8 _ ?_; clear hK8; refine ae [0, 1, 4, 5, 7, 8, 9, 16] ?_; simp only [Y, lkp, zE, reduceCtorEq, E, Z, D]
    refine ai hP hN rfl ?_
    iterate 2 (refine ad rfl fun K0 V => ?_; simp only [zE, op1, ev, lkp, ah, ag, aE, aC, aD, ar, aB, aN, reduceCtorEq, E, D, J, U, O, S, Try.td3]; (repeat refine And.intro (by first | omega | assumption | exact rfl) ?_); refine V _ ?_; clear V K0; simp only [put, app, aa, af, zE, zS, D])
    refine aj ?_
    refine ⟨_, _, ?_, aO [0, 1, 4, 7, 8], k + 1, by omega, fun q hq2 => ?_, rfl, rfl⟩
    · omega
    · by_cases e : q = k
      · rw [e]; exact hne
      · exact hq q (by omega)
  ·(try simp only [zB, reduceCtorEq] at hc7)
   refine bD ?_
   refine hK2 _ ?_; clear hK2; refine ae [0, 1, 4, 7, 8, 9] ?_; simp only [Y, lkp, zE, reduceCtorEq, E, Z, D]
   refine ab fun K13 hK13 => ?_
   refine ai hP hN rfl ?_
   (refine ad rfl fun K0 V => ?_; simp only [zE, op1, ev, lkp, ah, ag, ev, reduceCtorEq, E, D, J, U, O, S, Try.td3]; refine V _ ?_; clear V K0; simp only [put, app, aa, af, zE, zS, D])
   refine aj ?_
   refine hK13 _ ?_; clear hK13; refine ae [0, 1, 4, 7, 8, 9] ?_; simp only [Y, lkp, zE, reduceCtorEq, E, Z, D]
   refine aI ?_
   refine ⟨by first | exact .inl rfl | exact .inr rfl, _, rfl, ?_⟩; simp only [fzV, fz1, fzC, List.map_cons, List.map_nil, Y, lkp, zE, reduceCtorEq, E, Z, D]
   refine VLE.of_eq ?_
   refine congrArg (fun n => AV.one (AC.int IntKind.i64 n)) ?_
   symm
   first
   | (have h9 := rH hq (by omega) he9; obtain ⟨g1, g2⟩ := h9; rw [iq g2, g1]; done)
   | exact kp (mM (dv := []) fun j hj => hq j (by omega))
end Go.Proofs.Ytdkgcbhbpdbmnaa
namespace Go.Proofs.Ytdkgcbhbpdbmnaa
open Go Go.AV
open Nat renaming reduceEqDiff → E, reduceAdd → D, reduceLeDiff → J, reduceLT → U, reduceMul → O, reduceSub → S
open List renaming set_cons_zero → aq, set_cons_succ → am
set_option maxRecDepth 100000 in
theorem sF (d : Dfa) (cl : List Int) (s : Nat) (hd : DOK d) (hs : s < d.nx.length) (hcl : cl.length = d.nx.length) : bJ Try.prog 89 [d.av, .one (.list (.int .i64) cl), .one (.int .i64 (s : Int))] (.one (.list (.int .i64) (d.sg cl s))) := by
 have a4 := hd.n2; have a2 := hd.i2; have hrl : ((d.nx.getD s []).length : Int) = d.inp := hd.rl s hs
 refine aS Try.func89 rfl (by kernel_rfl) (Nat.le_of_ble_eq_true rfl) rfl fun C hP hN hB => ?_
 replace hN : C.N = 34 := hN
 simp only [Z, D]
 refine ab fun K1 hK1 => ?_
 refine ai hP hN rfl ?_
 iterate 2 (refine ad rfl fun K0 V => ?_; simp only [zE, op1, ev, lkp, ah, ag, c0, au, reduceCtorEq, E, D, J, U, O, S, Try.el26, Try.st25, Try.td25, Try.td26, Dfa.av, Int.toNat_natCast]; (repeat refine And.intro (by first | omega | assumption | exact rfl) ?_); refine V _ ?_; clear V K0; simp only [put, app, aa, af, zE, zS, D])
 refine aj ?_
 refine hK1 _ ?_; clear hK1; refine ae [0, 1, 2, 3, 6] ?_; simp only [Y, lkp, zE, reduceCtorEq, E, Z, D]
 refine ab fun K2 hK2 => ?_
 refine ai hP hN rfl ?_
 iterate 4 (refine ad rfl fun K0 V => ?_; simp only [zE, op1, ev, lkp, ah, ag, aJ, zG, Ty.dflt, Ty.size, Nat.mul_one, ne_eq, not_false_eq_true, Int.natCast_one, Int.mul_one, az, ax, ay, acs, ao, reduceCtorEq, E, D, J, U, O, S, Try.el26, Try.td26, Try.td3, Dfa.av, Int.toNat_natCast]; (repeat refine And.intro (by first | omega | assumption | exact rfl) ?_); refine V _ ?_; clear V K0; simp only [put, app, aa, af, zE, zS, D])
 (refine ad rfl fun K0 V => ?_; simp only [zE, op1, ev, lkp, ah, ag, bn, bh, ch, rep, aL, aQ, au, Ty.size, reduceCtorEq, E, D, J, U, O, S, Try.el26, Try.td1, Try.td26, Dfa.av, Int.toNat_natCast]; (repeat refine And.intro (by first | omega | assumption | exact rfl) ?_); refine Or.inr (Or.inl (V _ ?_)); clear V K0; simp only [put, app, aa, af, zE, zS, D])
 (refine ad rfl fun K0 V => ?_; simp only [zE, op1, ev, lkp, ah, ag, ev, reduceCtorEq, E, D, J, U, O, S, Try.el26, Try.td26, Dfa.av, Int.toNat_natCast]; refine V _ ?_; clear V K0; simp only [put, app, aa, af, zE, zS, D])
 refine aj ?_
 refine hK2 _ ?_; clear hK2; refine ae [0, 1, 2, 3, 6, 7] ?_; simp only [Y, lkp, zE, reduceCtorEq, E, Z, D]
 refine ab fun K3 hK3 => ?_
 refine ab fun K4 hK4 => ?_
 refine ai hP hN rfl ?_
 iterate 7 (refine ad rfl fun K0 V => ?_; simp only [zE, op1, ev, lkp, ah, ag, aw, az, Nat.mul_one, ax, ay, acs, Ty.dflt, zG, ao, aJ, Ty.size, ne_eq, not_false_eq_true, Int.natCast_one, Int.mul_one, aH, bu, bb, aY, aZ, br, Nat.div_one, aM, b0, aL, dite_true, reduceCtorEq, E, D, J, U, O, S, Try.el22, Try.el26, Try.st25, Try.td2, Try.td22, Try.td25, Try.td26, Try.td3, Dfa.av, Int.toNat_natCast]; (repeat refine And.intro (by first | omega | assumption | exact rfl) ?_); (first | refine V _ ?_ | refine Or.inl (V _ ?_)); clear V K0; simp only [put, app, aa, af, zE, zS, D])
 refine aj ?_
 refine hK4 _ ?_; clear hK4; refine ae [0, 1, 2, 3, 6, 7, 19, 20, 21] ?_; simp only [Y, lkp, zE, reduceCtorEq, E, Z, D]
 refine aP ?_
 refine bG (fun n5 s5 => ∃ (k : Nat) (v : Nat), (k ≤ (d.nx.getD s []).length) ∧ n5 = (d.nx.getD s []).length - k ∧ s5 = { env := [(1, .one (.list (.int .i64) cl)), (6, .one .nils), (7, .one (.row 1 v)), (19, .one (.list (.int .i64) (d.nx.getD s []))), (20, .one (.int .i64 ((d.nx.getD s []).length : Int))), (21, .one (.int .i64 (k : Int)))], L := [.vars 25 [.int .i64 d.inp, .int .i64 d.st, .list (.list (.int .i64)) d.nx, .list .bool d.acc], .row (.int .i64) 3 v (d.sgP cl s k)] }) ?_ ?_
 ·exact ⟨_, _, aO [1, 6, 7, 19, 20, 21], 0, 0, Nat.zero_le _, rfl, rfl⟩
 ·rintro n5 s5 ⟨k, v, hk, rfl, rfl⟩
  refine ab fun K6 hK6 => ?_
  refine ai hP hN rfl ?_
  (refine ad rfl fun K0 V => ?_; simp only [zE, op1, ev, lkp, ah, ag, aE, aC, aD, ar, aB, aN, reduceCtorEq, E, D, J, U, O, S, Try.td3, Dfa.av, Int.toNat_natCast]; (repeat refine And.intro (by first | omega | assumption | exact rfl) ?_); refine V _ ?_; clear V K0; simp only [put, app, aa, af, zE, zS, D])
  refine aj ?_
  refine hK6 _ ?_; clear hK6; refine ae [1, 6, 7, 19, 20, 21, 22] ?_; simp only [Y, lkp, zE, reduceCtorEq, E, Z, D]
  refine ab fun K7 hK7 => ?_
  refine aF (by simp only [ev, Y, lkp, zE, reduceCtorEq, E, Z, D]; exact rfl) (fun hc8 => ?_) (fun hc8 => ?_)
  ·(try simp only [zB, reduceCtorEq] at hc8)
   refine aK ?_
   refine hK7 _ ?_; clear hK7; refine ae [1, 6, 7, 19, 20, 21, 22] ?_; simp only [Y, lkp, zE, reduceCtorEq, E, Z, D]
   refine ab fun K9 hK9 => ?_
   refine aP ?_
   refine ab fun K10 hK10 => ?_
   have hcl9 : 0 ≤ (d.nx.getD s []).getD k 0 ∧ (d.nx.getD s []).getD k 0 < d.nx.length := hd.cl s k hs (by omega)
   have hsl := qF (d := d) (cl := cl) (s := s) (k := k) (by omega)
   refine ai hP hN rfl ?_
   iterate 3 (refine ad rfl fun K0 V => ?_; simp only [zE, op1, ev, lkp, ah, ag, aJ, zG, Ty.dflt, Ty.size, Nat.mul_one, ne_eq, not_false_eq_true, Int.natCast_one, Int.mul_one, az, ax, ay, acs, ao, reduceCtorEq, E, D, J, U, O, S, Try.el26, Try.td26, Try.td3, Dfa.av, Int.toNat_natCast]; (repeat refine And.intro (by first | omega | assumption | exact rfl) ?_); refine V _ ?_; clear V K0; simp only [put, app, aa, af, zE, zS, D])
   refine aj ?_
   refine hK10 _ ?_; clear hK10; refine ae [1, 6, 7, 9, 19, 20, 21, 22] ?_; simp only [Y, lkp, zE, reduceCtorEq, E, Z, D]
   refine ai hP hN rfl ?_
   iterate 8 (refine ad rfl fun K0 V => ?_; simp only [zE, op1, ev, lkp, ah, ag, aJ, zG, Ty.dflt, Ty.size, Nat.mul_one, ne_eq, not_false_eq_true, Int.natCast_one, Int.mul_one, az, ax, ay, acs, ao, bn, bh, ch, rep, aL, aQ, au, aH, bu, bb, aY, aZ, br, Nat.div_one, aM, b0, dite_true, reduceCtorEq, E, D, J, U, O, S, Try.el26, Try.td1, Try.td26, Try.td3, Dfa.av, Int.toNat_natCast, hsl]; (repeat refine And.intro (by first | omega | assumption | exact rfl) ?_); (first | refine V _ ?_ | refine Or.inl (V _ ?_)); clear V K0; simp only [put, app, aa, af, zE, zS, D])
   refine aj ?_
   refine hK9 _ ?_; clear hK9; refine ae [1, 6, 7, 9, 19, 20, 21, 22] ?_; simp only [Y, lkp, zE, reduceCtorEq, E, Z, D]
   refine ai hP hN rfl ?_
   iterate 2 (refine ad rfl fun K0 V => ?_; simp only [zE, op1, ev, lkp, ah, ag, aE, aC, aD, ar, aB, aN, reduceCtorEq, E, D, J, U, O, S, Try.td3, Dfa.av, Int.toNat_natCast]; (repeat refine And.intro (by first | omega | assumption | exact rfl) ?_); refine V _ ?_; clear V K0; simp only [put, app, aa, af, zE, zS, D])
   refine aj ?_
   refine ⟨_, _, ?_, aO [1, 6, 7, 19, 20, 21], k + 1, v + 1, by omega, rfl, ?_⟩
   · omega
   · rw [pU (by omega)]; rfl
  ·(try simp only [zB, reduceCtorEq] at hc8)
   refine bD ?_
   refine hK3 _ ?_; clear hK3; refine ae [1, 6, 7, 19, 20, 21, 22] ?_; simp only [Y, lkp, zE, reduceCtorEq, E, Z, D]
   refine ab fun K11 hK11 => ?_
   refine d9 1 rfl ?_; simp only [List.map_cons, List.map_nil, zS, E, and_self, and_true, true_and, and_false, false_and, if_true, if_false, eq_self, reduceCtorEq, Nat.one_ne_zero, Nat.zero_ne_one]
   have hke : k = (d.nx.getD s []).length := by omega
   rw [hke, qx]
   refine ai hP hN rfl ?_
   iterate 2 (refine ad rfl fun K0 V => ?_; simp only [zE, op1, ev, lkp, ah, ag, ev, reduceCtorEq, E, D, J, U, O, S, Try.el26, Try.td26, Dfa.av, Int.toNat_natCast]; refine V _ ?_; clear V K0; simp only [put, app, aa, af, zE, zS, D])
   refine aj ?_
   refine hK11 _ ?_; clear hK11; refine ae [1, 6, 7, 19, 20, 21, 22] ?_; simp only [Y, lkp, zE, reduceCtorEq, E, Z, D]
   refine aI ?_
   refine ⟨by first | exact .inl rfl | exact .inr rfl, _, rfl, ?_⟩; simp only [fzV, fz1, fzC, List.map_cons, List.map_nil, Y, lkp, zE, reduceCtorEq, E, Z, D, Dfa.av, Int.toNat_natCast]
   refine VLE.of_eq ?_
   rfl
end Go.Proofs.Ytdkgcbhbpdbmnaa
namespace Go.Proofs.Ytdkgcbhbpdbmnaa
open Go Go.AV
open Nat renaming reduceEqDiff → E, reduceAdd → D, reduceLeDiff → J, reduceLT → U, reduceMul → O, reduceSub → S
open List renaming set_cons_zero → aq, set_cons_succ → am
set_option maxRecDepth 100000 in
set_option maxHeartbeats 1000000 in
theorem qT (d : Dfa) (cl : List Int) (hd : DOK d) (hcl : cl.length = d.nx.length) : bJ Try.prog 82 [d.av, .one (.list (.int .i64) cl)] (.tup [.one (.list (.int .i64) (d.nxL cl)), .one (.int .i64 ((cz (d.sg cl) d.nx.length).length : Int))]) := by
 have a4 := hd.n2; have a2 := hd.i2
 refine aS Try.func82 rfl (by kernel_rfl) (Nat.le_of_ble_eq_true rfl) rfl fun C hP hN hB => ?_
 replace hN : C.N = 43 := hN
 simp only [Z, D]
 refine ab fun K1 hK1 => ?_
 refine ai hP hN rfl ?_
 iterate 3 (refine ad rfl fun K0 V => ?_; simp only [zE, op1, ev, lkp, ah, ag, c0, au, reduceCtorEq, E, D, J, U, O, S, Try.el26, Try.st25, Try.td25, Try.td26, Try.td3, Dfa.av]; (repeat refine And.intro (by first | omega | assumption | exact rfl) ?_); refine V _ ?_; clear V K0; simp only [put, app, aa, af, zE, zS, D])
 refine aj ?_
 refine hK1 _ ?_; clear hK1; refine ae [0, 1, 2, 4, 5] ?_; simp only [Y, lkp, zE, reduceCtorEq, E, Z, D]
 refine ab fun K2 hK2 => ?_
 refine ai hP hN rfl ?_
 iterate 4 (refine ad rfl fun K0 V => ?_; simp only [zE, op1, ev, lkp, ah, ag, aH, bu, bb, aY, aZ, br, Nat.div_one, aM, b0, Ty.size, aL, dite_true, cD, Ty.dflt, reduceCtorEq, E, D, J, U, O, S, Try.el26, Try.td26, Try.td3, Dfa.av]; (repeat refine And.intro (by first | omega | assumption | exact rfl) ?_); (first | refine V _ ?_ | refine Or.inl (V _ ?_)); clear V K0; simp only [put, app, aa, af, zE, zS, D])
 refine aj ?_
 refine hK2 _ ?_; clear hK2; refine ae [0, 1, 2, 4, 5, 6] ?_; simp only [Y, lkp, zE, reduceCtorEq, E, Z, D]
 refine ab fun K3 hK3 => ?_
 refine ai hP hN rfl ?_
 (refine ad rfl fun K0 V => ?_; simp only [zE, op1, ev, lkp, ah, ag, ev, reduceCtorEq, E, D, J, U, O, S, Try.el22, Try.td22, Dfa.av]; refine V _ ?_; clear V K0; simp only [put, app, aa, af, zE, zS, D])
 refine aj ?_
 refine hK3 _ ?_; clear hK3; refine ae [0, 1, 2, 4, 5, 6, 7] ?_; simp only [Y, lkp, zE, reduceCtorEq, E, Z, D]
 refine ab fun K4 hK4 => ?_
 refine ab fun K5 hK5 => ?_
 refine ai hP hN rfl ?_
 iterate 4 (refine ad rfl fun K0 V => ?_; simp only [zE, op1, ev, lkp, ah, ag, aw, az, Nat.mul_one, ax, ay, acs, Ty.dflt, zG, ao, aH, bu, bb, aY, aZ, br, Nat.div_one, aM, b0, Ty.size, aL, dite_true, reduceCtorEq, E, D, J, U, O, S, Try.el22, Try.st25, Try.td2, Try.td22, Try.td25, Try.td3, Dfa.av]; (repeat refine And.intro (by first | omega | assumption | exact rfl) ?_); (first | refine V _ ?_ | refine Or.inl (V _ ?_)); clear V K0; simp only [put, app, aa, af, zE, zS, D])
 refine aj ?_
 refine hK5 _ ?_; clear hK5; refine ae [0, 1, 2, 4, 5, 6, 7, 16, 17] ?_; simp only [Y, lkp, zE, reduceCtorEq, E, Z, D]
 refine aP ?_
 refine fP 7 (.list (.int .i64)) 26 (by decide) rfl ?_; simp only [List.length_cons, List.length_nil, List.cons_append, List.nil_append, Nat.zero_add, D]
 refine bG (fun n6 s6 => ∃ (k : Nat) (v : Nat), (k ≤ d.nx.length) ∧ n6 = d.nx.length - k ∧ s6 = { env := [(1, .one (.list (.int .i64) cl)), (2, .one (.ptr 0 0 0 0)), (4, .one .nils), (5, .one (.int .i64 0)), (6, .one (.row 1 0)), (7, .one (.row 2 v)), (16, .one (.int .i64 (d.nx.length : Int))), (17, .one (.int .i64 (k : Int)))], L := [.vars 25 [.int .i64 d.inp, .int .i64 d.st, .list (.list (.int .i64)) d.nx, .list .bool d.acc], .row (.int .i64) 3 0 (prL (nxF d cl) d.nx.length k 0), .row (.list (.int .i64)) 26 v (cz (d.sg cl) k)] }) ?_ ?_
 ·refine ⟨_, _, aO [1, 2, 4, 5, 6, 7, 16, 17], 0, 0, Nat.zero_le _, rfl, ?_⟩
  rw [lx, hcl]; rfl
 ·rintro n6 s6 ⟨k, v, hk, rfl, rfl⟩
  refine ab fun K7 hK7 => ?_
  refine ai hP hN rfl ?_
  (refine ad rfl fun K0 V => ?_; simp only [zE, op1, ev, lkp, ah, ag, aE, aC, aD, ar, aB, aN, reduceCtorEq, E, D, J, U, O, S, Try.td3, Dfa.av]; (repeat refine And.intro (by first | omega | assumption | exact rfl) ?_); refine V _ ?_; clear V K0; simp only [put, app, aa, af, zE, zS, D])
  refine aj ?_
  refine hK7 _ ?_; clear hK7; refine ae [1, 2, 4, 5, 6, 7, 16, 17, 18] ?_; simp only [Y, lkp, zE, reduceCtorEq, E, Z, D]
  refine ab fun K8 hK8 => ?_
  refine aF (by simp only [ev, Y, lkp, zE, reduceCtorEq, E, Z, D]; exact rfl) (fun hc9 => ?_) (fun hc9 => ?_)
  ·(try simp only [zB, reduceCtorEq] at hc9)
   refine aK ?_
   refine hK8 _ ?_; clear hK8; refine ae [1, 2, 4, 5, 6, 7, 16, 17, 18] ?_; simp only [Y, lkp, zE, reduceCtorEq, E, Z, D]
   refine ab fun K10 hK10 => ?_
   refine aP ?_
   refine ab fun K11 hK11 => ?_
   refine ai hP hN rfl ?_
   iterate 2 (refine ad rfl fun K0 V => ?_; simp only [zE, op1, ev, lkp, ah, ag, ev, reduceCtorEq, E, D, J, U, O, S, Try.td3, Dfa.av]; refine V _ ?_; clear V K0; simp only [put, app, aa, af, zE, zS, D])
   refine aj ?_
   refine hK11 _ ?_; clear hK11; refine ae [1, 2, 4, 5, 6, 7, 8, 16, 17, 18] ?_; simp only [Y, lkp, zE, reduceCtorEq, E, Z, D]
   refine ab fun K12 hK12 => ?_
   refine ai hP hN rfl ?_
   iterate 3 (refine ad rfl fun K0 V => ?_; simp only [zE, op1, ev, lkp, ah, ag, az, Nat.mul_one, ax, ay, acs, Ty.dflt, zG, ao, reduceCtorEq, E, D, J, U, O, S, Try.el26, Try.st25, Try.td25, Try.td26, Try.td3, Dfa.av]; (repeat refine And.intro (by first | omega | assumption | exact rfl) ?_); refine V _ ?_; clear V K0; simp only [put, app, aa, af, zE, zS, D])
   refine ad rfl fun K0 V => ?_
   refine aW (h := aG (sF d cl k hd (by omega) hcl)) rfl rfl (by first | exact rfl | (simp only [ev, Y, lkp, zE, reduceCtorEq, E, Z, D]; exact rfl)) (by simp only [zE, zG, op1, ev, lkp, ah, ag, au, acs, ba, mv1, mvC, Ty.dflt, reduceCtorEq, E, D, J, U, O, S, Dfa.av]) ?_
   refine V _ ?_; clear V K0; simp only [put, app, aa, af, zE, zS, D]
   iterate 2 (refine ad rfl fun K0 V => ?_; simp only [zE, op1, ev, lkp, ah, ag, bQ, bj, Nat.mul_one, au, aQ, aL, acs, Ty.size, Ty.dflt, zG, reduceCtorEq, E, D, J, U, O, S, Try.el26, Try.td26, Dfa.av]; (repeat refine And.intro (by first | omega | assumption | exact rfl) ?_); (first | refine V _ ?_ | refine Or.inl (V _ ?_)); clear V K0; simp only [put, app, aa, af, zE, zS, D])
   refine aj ?_
   refine hK12 _ ?_; clear hK12; refine ae [1, 2, 4, 5, 6, 7, 8, 9, 16, 17, 18] ?_; simp only [Y, lkp, zE, reduceCtorEq, E, Z, D]
   refine ab fun K13 hK13 => ?_
   refine cv 3 (.list (.int .i64)) rfl rfl ?_; simp only [List.map_cons, List.map_nil, shV, if_true, zS, if_false, eq_self, E, reduceCtorEq, Nat.one_ne_zero, Nat.zero_ne_one]
   have hdl := ij (d.sg cl) k
   refine ai hP hN rfl ?_
   iterate 2 (refine ad rfl fun K0 V => ?_; simp only [zE, op1, ev, lkp, ah, ag, cp, cK, di, reduceCtorEq, E, D, J, U, O, S, Try.el22, Try.td121, Try.td22, Dfa.av]; (repeat refine And.intro (by first | omega | assumption | exact rfl) ?_); (first | refine V _ ?_ | refine Or.inl (V _ ?_)); clear V K0; simp only [put, app, aa, af, zE, zS, D])
   refine ad rfl fun K0 V => ?_
   refine aW (h := mI (args := [.one (.row 2 v), .one (.fn 91 [.pat (.list (.int .i64)) (d.sg cl k)])]) (by simp [fzV, fz1, fzC, f0]) rfl (sh (cz (d.sg cl) k) (d.sg cl k)) rfl) rfl rfl (by first | exact rfl | (simp only [ev, Y, lkp, zE, reduceCtorEq, E, Z, D]; exact rfl)) (by simp only [zE, zG, op1, ev, lkp, ah, ag, au, acs, ba, mv1, mvC, Ty.dflt, reduceCtorEq, E, D, J, U, O, S, Dfa.av]) ?_
   refine V _ ?_; clear V K0; simp only [put, app, aa, af, zE, zS, D]
   (refine ad rfl fun K0 V => ?_; simp only [zE, op1, ev, lkp, ah, ag, ev, reduceCtorEq, E, D, J, U, O, S, Try.td3, Dfa.av]; refine V _ ?_; clear V K0; simp only [put, app, aa, af, zE, zS, D])
   refine aj ?_
   refine hK13 _ ?_; clear hK13; refine ae [1, 2, 4, 5, 6, 7, 8, 9, 10, 16, 17, 18] ?_; simp only [Y, lkp, zE, reduceCtorEq, E, Z, D]
   refine ab fun K14 hK14 => ?_
   refine ab fun K15 hK15 => ?_
   refine ai hP hN rfl ?_
   iterate 2 (refine ad rfl fun K0 V => ?_; simp only [zE, op1, ev, lkp, ah, ag, aE, aC, aD, ar, aB, aN, reduceCtorEq, E, D, J, U, O, S, Try.td3, Try.td4, Dfa.av]; (repeat refine And.intro (by first | omega | assumption | exact rfl) ?_); refine V _ ?_; clear V K0; simp only [put, app, aa, af, zE, zS, D])
   refine aj ?_
   refine hK15 _ ?_; clear hK15; refine ae [1, 2, 4, 5, 6, 7, 8, 9, 10, 16, 17, 18, 28] ?_; simp only [Y, lkp, zE, reduceCtorEq, E, Z, D]
   refine aF (by simp only [ev, Y, lkp, zE, reduceCtorEq, E, Z, D]; exact rfl) (fun hc16 => ?_) (fun hc16 => ?_)
   ·(try simp only [zB, reduceCtorEq] at hc16)
    have hnin : (d.sg cl k) ∉ (cz (d.sg cl) k) := mS.1 hc16
    refine ab fun K17 hK17 => ?_
    refine ai hP hN rfl ?_
    iterate 3 (refine ad rfl fun K0 V => ?_; simp only [zE, op1, ev, lkp, ah, ag, aH, bu, bb, aY, aZ, br, Nat.div_one, aM, b0, Ty.size, aL, dite_true, reduceCtorEq, E, D, J, U, O, S, Try.el22, Try.td22, Try.td3, Dfa.av]; (repeat refine And.intro (by first | omega | assumption | exact rfl) ?_); (first | refine V _ ?_ | refine Or.inl (V _ ?_)); clear V K0; simp only [put, app, aa, af, zE, zS, D])
    refine aj ?_
    refine hK17 _ ?_; clear hK17; refine ae [1, 2, 4, 5, 6, 7, 8, 9, 10, 16, 17, 18, 28] ?_; simp only [Y, lkp, zE, reduceCtorEq, E, Z, D]
    refine ai hP hN rfl ?_
    iterate 5 (refine ad rfl fun K0 V => ?_; simp only [zE, op1, ev, lkp, ah, ag, az, Nat.mul_one, ax, ay, acs, Ty.dflt, zG, ao, bn, bh, ch, rep, aL, aQ, au, Ty.size, aH, bu, bb, aY, aZ, br, Nat.div_one, aM, b0, dite_true, reduceCtorEq, E, D, J, U, O, S, Try.el22, Try.el26, Try.td1, Try.td22, Try.td26, Dfa.av]; (repeat refine And.intro (by first | omega | assumption | exact rfl) ?_); (first | refine V _ ?_ | refine Or.inl (V _ ?_)); clear V K0; simp only [put, app, aa, af, zE, zS, D])
    refine aj ?_
    refine hK14 _ ?_; clear hK14; refine ae [1, 2, 4, 5, 6, 7, 8, 9, 10, 16, 17, 18, 28] ?_; simp only [Y, lkp, zE, reduceCtorEq, E, Z, D]
    refine ai hP hN rfl ?_
    iterate 5 (refine ad rfl fun K0 V => ?_; simp only [zE, op1, ev, lkp, ah, ag, aJ, zG, Ty.dflt, Ty.size, Nat.mul_one, ne_eq, not_false_eq_true, Int.natCast_one, Int.mul_one, bj, au, aQ, aL, acs, reduceCtorEq, E, D, J, U, O, S, Try.el26, Try.td26, Try.td3, Dfa.av, ex]; (repeat refine And.intro (by first | omega | assumption | exact rfl) ?_); refine V _ ?_; clear V K0; simp only [put, app, aa, af, zE, zS, D])
    refine aj ?_
    refine hK10 _ ?_; clear hK10; refine ae [1, 2, 4, 5, 6, 7, 8, 9, 10, 16, 17, 18, 28] ?_; simp only [Y, lkp, zE, reduceCtorEq, E, Z, D]
    refine ae [1, 2, 4, 5, 6, 7, 16, 17] ?_; simp only [Y, lkp, zE, reduceCtorEq, E]
    refine dP (n := 3) (L1 := [_, _, _]) rfl rfl (by rw [hB]; decide) rfl rfl ?_
    refine ai hP hN rfl ?_
    iterate 2 (refine ad rfl fun K0 V => ?_; simp only [zE, op1, ev, lkp, ah, ag, aE, aC, aD, ar, aB, aN, reduceCtorEq, E, D, J, U, O, S, Try.td3, Dfa.av]; (repeat refine And.intro (by first | omega | assumption | exact rfl) ?_); refine V _ ?_; clear V K0; simp only [put, app, aa, af, zE, zS, D])
    refine aj ?_
    first
    | (have hv9 : ((cz (d.sg cl) k).length : Int) = nxF d cl k := by unfold nxF; rw [l9 (by omega) hnin]
       refine ⟨_, _, ?_, aO [1, 2, 4, 5, 6, 7, 16, 17], k + 1, v + 1, by omega, rfl, ?_⟩
       · omega
       · rw [hv9, dS (by omega), cZ, cU, dI hnin]; rfl)
    | (have hv9 : ixL (cz (d.sg cl) k) (d.sg cl k) = nxF d cl k := by unfold nxF; rw [lf (by omega) hin, iq hin]
       refine ⟨_, _, ?_, aO [1, 2, 4, 5, 6, 7, 16, 17], k + 1, v, by omega, rfl, ?_⟩
       · omega
       · rw [hv9, dS (by omega), cZ, cU, eB hin]; rfl)
   ·(try simp only [zB, reduceCtorEq] at hc16)
    have hin : (d.sg cl k) ∈ (cz (d.sg cl) k) := by have h9 := hc16; rw [← Int.not_lt, mS] at h9; exact Decidable.not_not.1 h9
    refine aK ?_
    refine hK14 _ ?_; clear hK14; refine ae [1, 2, 4, 5, 6, 7, 8, 9, 10, 16, 17, 18, 28] ?_; simp only [Y, lkp, zE, reduceCtorEq, E, Z, D]
    refine ai hP hN rfl ?_
    iterate 5 (refine ad rfl fun K0 V => ?_; simp only [zE, op1, ev, lkp, ah, ag, aJ, zG, Ty.dflt, Ty.size, Nat.mul_one, ne_eq, not_false_eq_true, Int.natCast_one, Int.mul_one, bj, au, aQ, aL, acs, reduceCtorEq, E, D, J, U, O, S, Try.el26, Try.td26, Try.td3, Dfa.av, ex]; (repeat refine And.intro (by first | omega | assumption | exact rfl) ?_); refine V _ ?_; clear V K0; simp only [put, app, aa, af, zE, zS, D])
    refine aj ?_
    refine hK10 _ ?_; clear hK10; refine ae [1, 2, 4, 5, 6, 7, 8, 9, 10, 16, 17, 18, 28] ?_; simp only [Y, lkp, zE, reduceCtorEq, E, Z, D]
    refine ae [1, 2, 4, 5, 6, 7, 16, 17] ?_; simp only [Y, lkp, zE, reduceCtorEq, E]
    refine dP (n := 3) (L1 := [_, _, _]) rfl rfl (by rw [hB]; decide) rfl rfl ?_
    refine ai hP hN rfl ?_
    iterate 2 (refine ad rfl fun K0 V => ?_; simp only [zE, op1, ev, lkp, ah, ag, aE, aC, aD, ar, aB, aN, reduceCtorEq, E, D, J, U, O, S, Try.td3, Dfa.av]; (repeat refine And.intro (by first | omega | assumption | exact rfl) ?_); refine V _ ?_; clear V K0; simp only [put, app, aa, af, zE, zS, D])
    refine aj ?_
    first
    | (have hv9 : ((cz (d.sg cl) k).length : Int) = nxF d cl k := by unfold nxF; rw [l9 (by omega) hnin]
       refine ⟨_, _, ?_, aO [1, 2, 4, 5, 6, 7, 16, 17], k + 1, v + 1, by omega, rfl, ?_⟩
       · omega
       · rw [hv9, dS (by omega), cZ, cU, dI hnin]; rfl)
    | (have hv9 : ixL (cz (d.sg cl) k) (d.sg cl k) = nxF d cl k := by unfold nxF; rw [lf (by omega) hin, iq hin]
       refine ⟨_, _, ?_, aO [1, 2, 4, 5, 6, 7, 16, 17], k + 1, v, by omega, rfl, ?_⟩
       · omega
       · rw [hv9, dS (by omega), cZ, cU, eB hin]; rfl)
  ·(try simp only [zB, reduceCtorEq] at hc9)
   refine bD ?_
   refine hK4 _ ?_; clear hK4; refine ae [1, 2, 4, 5, 6, 7, 16, 17, 18] ?_; simp only [Y, lkp, zE, reduceCtorEq, E, Z, D]
   refine ab fun K18 hK18 => ?_
   refine d9 1 rfl ?_; simp only [List.map_cons, List.map_nil, zS, E, and_self, and_true, true_and, and_false, false_and, if_true, if_false, eq_self, reduceCtorEq, Nat.one_ne_zero, Nat.zero_ne_one]
   have hke : k = d.nx.length := by omega
   rw [hke, io, show (List.range d.nx.length).map (nxF d cl) = d.nxL cl from rfl]
   refine ai hP hN rfl ?_
   iterate 5 (refine ad rfl fun K0 V => ?_; simp only [zE, op1, ev, lkp, ah, ag, aH, bu, bb, aY, aZ, br, Nat.div_one, aM, b0, Ty.size, aL, dite_true, reduceCtorEq, E, D, J, U, O, S, Try.el22, Try.el26, Try.td22, Try.td26, Try.td3, Dfa.av]; (repeat refine And.intro (by first | omega | assumption | exact rfl) ?_); (first | refine V _ ?_ | refine Or.inl (V _ ?_)); clear V K0; simp only [put, app, aa, af, zE, zS, D])
   refine aj ?_
   refine hK18 _ ?_; clear hK18; refine ae [1, 2, 4, 5, 6, 7, 16, 17, 18] ?_; simp only [Y, lkp, zE, reduceCtorEq, E, Z, D]
   refine aI ?_
   refine ⟨by first | exact .inl rfl | exact .inr rfl, _, rfl, ?_⟩; simp only [fzV, fz1, fzC, List.map_cons, List.map_nil, Y, lkp, zE, reduceCtorEq, E, Z, D, Dfa.av]
   refine VLE.of_eq ?_
   rfl
end Go.Proofs.Ytdkgcbhbpdbmnaa
namespace Go.Proofs.Ytdkgcbhbpdbmnaa
open Go Go.AV
open Nat renaming reduceEqDiff → E, reduceAdd → D, reduceLeDiff → J, reduceLT → U, reduceMul → O, reduceSub → S
open List renaming set_cons_zero → aq, set_cons_succ → am
set_option maxRecDepth 100000 in
theorem pX (d : Dfa) (hd : DOK d) : bJ Try.prog 64 [d.av] (.one (.list (.int .i64) d.cls)) := by
 have a4 := hd.n2; have a2 := hd.i2; have a7 := hd.al
 refine aS Try.func64 rfl (by kernel_rfl) (Nat.le_of_ble_eq_true rfl) rfl fun C hP hN hB => ?_
 replace hN : C.N = 38 := hN
 simp only [Z, D]
 refine ab fun K1 hK1 => ?_
 refine ai hP hN rfl ?_
 iterate 2 (refine ad rfl fun K0 V => ?_; simp only [zE, op1, ev, lkp, ah, ag, c0, au, reduceCtorEq, E, D, J, U, O, S, Try.el26, Try.st25, Try.td25, Try.td26, Dfa.av]; (repeat refine And.intro (by first | omega | assumption | exact rfl) ?_); refine V _ ?_; clear V K0; simp only [put, app, aa, af, zE, zS, D])
 refine aj ?_
 refine hK1 _ ?_; clear hK1; refine ae [0, 1, 2] ?_; simp only [Y, lkp, zE, reduceCtorEq, E, Z, D]
 refine ab fun K2 hK2 => ?_
 refine ai hP hN rfl ?_
 iterate 5 (refine ad rfl fun K0 V => ?_; simp only [zE, op1, ev, lkp, ah, ag, aw, az, Nat.mul_one, ax, ay, acs, Ty.dflt, zG, ao, aH, bu, bb, aY, aZ, br, Nat.div_one, aM, b0, Ty.size, aL, dite_true, cD, reduceCtorEq, E, D, J, U, O, S, Try.el22, Try.el26, Try.st25, Try.td2, Try.td22, Try.td25, Try.td26, Try.td3, Dfa.av]; (repeat refine And.intro (by first | omega | assumption | exact rfl) ?_); (first | refine V _ ?_ | refine Or.inl (V _ ?_)); clear V K0; simp only [put, app, aa, af, zE, zS, D])
 refine aj ?_
 refine hK2 _ ?_; clear hK2; refine ae [0, 1, 2, 3] ?_; simp only [Y, lkp, zE, reduceCtorEq, E, Z, D]
 refine ab fun K3 hK3 => ?_
 refine ab fun K4 hK4 => ?_
 refine ai hP hN rfl ?_
 iterate 4 (refine ad rfl fun K0 V => ?_; simp only [zE, op1, ev, lkp, ah, ag, aw, az, Nat.mul_one, ax, ay, acs, Ty.dflt, zG, ao, aH, bu, bb, aY, aZ, br, Nat.div_one, aM, b0, Ty.size, aL, dite_true, reduceCtorEq, E, D, J, U, O, S, Try.el23, Try.st25, Try.td23, Try.td25, Try.td3, Dfa.av]; (repeat refine And.intro (by first | omega | assumption | exact rfl) ?_); (first | refine V _ ?_ | refine Or.inl (V _ ?_)); clear V K0; simp only [put, app, aa, af, zE, zS, D])
 refine aj ?_
 refine hK4 _ ?_; clear hK4; refine ae [0, 1, 2, 3, 14, 15, 16] ?_; simp only [Y, lkp, zE, reduceCtorEq, E, Z, D]
 refine aP ?_
 refine bG (fun n5 s5 => ∃ (k : Nat), (k ≤ d.acc.length) ∧ n5 = d.acc.length - k ∧ s5 = { env := [(1, .one (.ptr 0 0 0 0)), (2, .one .nils), (3, .one (.row 1 0)), (14, .one (.list .bool d.acc)), (15, .one (.int .i64 (d.acc.length : Int))), (16, .one (.int .i64 (k : Int)))], L := [.vars 25 [.int .i64 d.inp, .int .i64 d.st, .list (.list (.int .i64)) d.nx, .list .bool d.acc], .row (.int .i64) 3 0 (prL (fi d) d.nx.length k 0)] }) ?_ ?_
 ·exact ⟨_, _, aO [1, 2, 3, 14, 15, 16], 0, Nat.zero_le _, rfl, by rw [lx]; rfl⟩
 ·rintro n5 s5 ⟨k, hk, rfl, rfl⟩
  refine ab fun K6 hK6 => ?_
  refine ai hP hN rfl ?_
  (refine ad rfl fun K0 V => ?_; simp only [zE, op1, ev, lkp, ah, ag, aE, aC, aD, ar, aB, aN, reduceCtorEq, E, D, J, U, O, S, Try.td3, Dfa.av]; (repeat refine And.intro (by first | omega | assumption | exact rfl) ?_); refine V _ ?_; clear V K0; simp only [put, app, aa, af, zE, zS, D])
  refine aj ?_
  refine hK6 _ ?_; clear hK6; refine ae [1, 2, 3, 14, 15, 16, 17] ?_; simp only [Y, lkp, zE, reduceCtorEq, E, Z, D]
  refine ab fun K7 hK7 => ?_
  refine aF (by simp only [ev, Y, lkp, zE, reduceCtorEq, E, Z, D]; exact rfl) (fun hc8 => ?_) (fun hc8 => ?_)
  ·(try simp only [zB, reduceCtorEq] at hc8)
   refine aK ?_
   refine hK7 _ ?_; clear hK7; refine ae [1, 2, 3, 14, 15, 16, 17] ?_; simp only [Y, lkp, zE, reduceCtorEq, E, Z, D]
   refine ab fun K9 hK9 => ?_
   refine aP ?_
   refine ab fun K10 hK10 => ?_
   refine ai hP hN rfl ?_
   iterate 5 (refine ad rfl fun K0 V => ?_; simp only [zE, op1, ev, lkp, ah, ag, aJ, zG, Ty.dflt, Ty.size, Nat.mul_one, ne_eq, not_false_eq_true, Int.natCast_one, Int.mul_one, az, ax, ay, acs, ao, reduceCtorEq, E, D, J, U, O, S, Try.el23, Try.td23, Try.td3, Try.td4, Dfa.av]; (repeat refine And.intro (by first | omega | assumption | exact rfl) ?_); refine V _ ?_; clear V K0; simp only [put, app, aa, af, zE, zS, D])
   refine aj ?_
   refine hK10 _ ?_; clear hK10; refine ae [1, 2, 3, 4, 5, 14, 15, 16, 17] ?_; simp only [Y, lkp, zE, reduceCtorEq, E, Z, D]
   refine ab fun K11 hK11 => ?_
   refine ai hP hN rfl ?_
   (refine ad rfl fun K0 V => ?_; simp only [zE, op1, ev, lkp, ah, ag, ev, reduceCtorEq, E, D, J, U, O, S, Try.td4, Dfa.av]; refine V _ ?_; clear V K0; simp only [put, app, aa, af, zE, zS, D])
   refine aj ?_
   refine hK11 _ ?_; clear hK11; refine ae [1, 2, 3, 4, 5, 14, 15, 16, 17, 21] ?_; simp only [Y, lkp, zE, reduceCtorEq, E, Z, D]
   refine aF (by simp only [ev, Y, lkp, zE, reduceCtorEq, E, Z, D]; exact rfl) (fun hc12 => ?_) (fun hc12 => ?_)
   ·(try simp only [zB, reduceCtorEq] at hc12)
    have hat : d.acc.getD k false = true := hc12
    refine ai hP hN rfl ?_
    iterate 4 (refine ad rfl fun K0 V => ?_; simp only [zE, op1, ev, lkp, ah, ag, aJ, zG, Ty.dflt, Ty.size, Nat.mul_one, ne_eq, not_false_eq_true, Int.natCast_one, Int.mul_one, bj, au, aQ, aL, acs, reduceCtorEq, E, D, J, U, O, S, Try.el26, Try.td26, Try.td3, Dfa.av, ex]; (repeat refine And.intro (by first | omega | assumption | exact rfl) ?_); refine V _ ?_; clear V K0; simp only [put, app, aa, af, zE, zS, D])
    refine aj ?_
    refine hK9 _ ?_; clear hK9; refine ae [1, 2, 3, 4, 5, 14, 15, 16, 17, 21] ?_; simp only [Y, lkp, zE, reduceCtorEq, E, Z, D]
    refine ai hP hN rfl ?_
    iterate 2 (refine ad rfl fun K0 V => ?_; simp only [zE, op1, ev, lkp, ah, ag, aE, aC, aD, ar, aB, aN, reduceCtorEq, E, D, J, U, O, S, Try.td3, Dfa.av]; (repeat refine And.intro (by first | omega | assumption | exact rfl) ?_); refine V _ ?_; clear V K0; simp only [put, app, aa, af, zE, zS, D])
    refine aj ?_
    first
    | (refine ⟨_, _, ?_, aO [1, 2, 3, 14, 15, 16], k + 1, by omega, rfl, ?_⟩
       · omega
       · rw [← lR (by omega) hat]; rfl)
    | (refine ⟨_, _, ?_, aO [1, 2, 3, 14, 15, 16], k + 1, by omega, rfl, ?_⟩
       · omega
       · rw [← lW hat]; rfl)
   ·(try simp only [zB, reduceCtorEq] at hc12)
    have hat : d.acc.getD k false = false := by simpa using hc12
    refine aK ?_
    refine hK9 _ ?_; clear hK9; refine ae [1, 2, 3, 4, 5, 14, 15, 16, 17, 21] ?_; simp only [Y, lkp, zE, reduceCtorEq, E, Z, D]
    refine ai hP hN rfl ?_
    iterate 2 (refine ad rfl fun K0 V => ?_; simp only [zE, op1, ev, lkp, ah, ag, aE, aC, aD, ar, aB, aN, reduceCtorEq, E, D, J, U, O, S, Try.td3, Dfa.av]; (repeat refine And.intro (by first | omega | assumption | exact rfl) ?_); refine V _ ?_; clear V K0; simp only [put, app, aa, af, zE, zS, D])
    refine aj ?_
    first
    | (refine ⟨_, _, ?_, aO [1, 2, 3, 14, 15, 16], k + 1, by omega, rfl, ?_⟩
       · omega
       · rw [← lR (by omega) hat]; rfl)
    | (refine ⟨_, _, ?_, aO [1, 2, 3, 14, 15, 16], k + 1, by omega, rfl, ?_⟩
       · omega
       · rw [← lW hat]; rfl)
  ·(try simp only [zB, reduceCtorEq] at hc8)
   refine bD ?_
   refine hK3 _ ?_; clear hK3; refine ae [1, 2, 3, 14, 15, 16, 17] ?_; simp only [Y, lkp, zE, reduceCtorEq, E, Z, D]
   refine ab fun K13 hK13 => ?_
   refine ai hP hN rfl ?_
   (refine ad rfl fun K0 V => ?_; simp only [zE, op1, ev, lkp, ah, ag, ev, reduceCtorEq, E, D, J, U, O, S, Try.td3, Dfa.av]; refine V _ ?_; clear V K0; simp only [put, app, aa, af, zE, zS, D])
   refine aj ?_
   refine hK13 _ ?_; clear hK13; refine ae [1, 2, 3, 6, 14, 15, 16, 17] ?_; simp only [Y, lkp, zE, reduceCtorEq, E, Z, D]
   refine aP ?_
   refine d9 1 rfl ?_; simp only [List.map_cons, List.map_nil, zS, E, and_self, and_true, true_and, and_false, false_and, if_true, if_false, eq_self, reduceCtorEq, Nat.one_ne_zero, Nat.zero_ne_one]
   obtain rfl : k = d.nx.length := by omega
   rw [io, show (List.range d.nx.length).map (fi d) = d.cl 0 from rfl]
   refine dP (n := 1) (L1 := [_]) rfl rfl (by rw [hB]; decide) rfl rfl ?_
   refine bG (fun n14 s14 => ∃ (j : Nat), (∀ q, q < j → d.cn (q + 1) ≠ d.cn q) ∧ n14 = d.nx.length + 1 - j ∧ s14 = { env := [(1, .one (.ptr 0 0 0 0)), (2, .one .nils), (3, .one (.list (.int .i64) (d.cl j))), (6, .one (.int .i64 (d.cn j : Int)))], L := [.vars 25 [.int .i64 d.inp, .int .i64 d.st, .list (.list (.int .i64)) d.nx, .list .bool d.acc]] }) ?_ ?_
   ·exact ⟨_, _, aO [1, 2, 3, 6], 0, fun q hq => by omega, rfl, rfl⟩
   ·rintro n14 s14 ⟨j, hq, rfl, rfl⟩
    refine aP ?_
    refine ab fun K15 hK15 => ?_
    have hgw := mz hd hq; have hcl9 := sS d j
    refine ai hP hN rfl ?_
    iterate 2 (refine ad rfl fun K0 V => ?_; simp only [zE, op1, ev, lkp, ah, ag, az, Nat.mul_one, ax, ay, acs, Ty.dflt, zG, ao, reduceCtorEq, E, D, J, U, O, S, Try.el26, Try.st25, Try.td25, Try.td26, Dfa.av]; (repeat refine And.intro (by first | omega | assumption | exact rfl) ?_); refine V _ ?_; clear V K0; simp only [put, app, aa, af, zE, zS, D])
    refine ad rfl fun K0 V => ?_
    refine aW (h := aG (qT d (d.cl j) hd (mn d j))) rfl rfl (by first | exact rfl | (simp only [ev, Y, lkp, zE, reduceCtorEq, E, Z, D]; exact rfl)) (by simp only [zE, zG, op1, ev, lkp, ah, ag, au, acs, ba, mv1, mvC, Ty.dflt, reduceCtorEq, E, D, J, U, O, S, Dfa.av]) ?_
    refine V _ ?_; clear V K0; simp only [put, app, aa, af, zE, zS, D]
    iterate 5 (refine ad rfl fun K0 V => ?_; simp only [zE, op1, ev, lkp, ah, ag, bI, reduceCtorEq, E, D, J, U, O, S, Try.el26, Try.td1, Try.td26, Try.td3, Dfa.av]; refine V _ ?_; clear V K0; simp only [put, app, aa, af, zE, zS, D])
    refine aj ?_
    refine hK15 _ ?_; clear hK15; refine ae [1, 2, 3, 6, 7, 8] ?_; simp only [Y, lkp, zE, reduceCtorEq, E, Z, D]
    refine ab fun K16 hK16 => ?_
    refine ab fun K17 hK17 => ?_
    refine ai hP hN rfl ?_
    iterate 3 (refine ad rfl fun K0 V => ?_; simp only [zE, op1, ev, lkp, ah, ag, aE, aC, aD, ar, aB, aN, reduceCtorEq, E, D, J, U, O, S, Try.td3, Try.td4, Dfa.av]; (repeat refine And.intro (by first | omega | assumption | exact rfl) ?_); refine V _ ?_; clear V K0; simp only [put, app, aa, af, zE, zS, D])
    refine aj ?_
    refine hK17 _ ?_; clear hK17; refine ae [1, 2, 3, 6, 7, 8, 34] ?_; simp only [Y, lkp, zE, reduceCtorEq, E, Z, D]
    refine aF (by simp only [ev, Y, lkp, zE, reduceCtorEq, E, Z, D]; exact rfl) (fun hc18 => ?_) (fun hc18 => ?_)
    ·(try simp only [zB, reduceCtorEq] at hc18)
     have hst : d.cn (j + 1) = d.cn j := by have h9 := hc18; have h8 : d.cn (j + 1) = (cz (d.sg (d.cl j)) d.nx.length).length := rfl; omega
     refine ab fun K19 hK19 => ?_
     refine ai hP hN rfl ?_
     iterate 2 (refine ad rfl fun K0 V => ?_; simp only [zE, op1, ev, lkp, ah, ag, ev, reduceCtorEq, E, D, J, U, O, S, Try.el26, Try.td26, Dfa.av]; refine V _ ?_; clear V K0; simp only [put, app, aa, af, zE, zS, D])
     refine aj ?_
     refine hK19 _ ?_; clear hK19; refine ae [1, 2, 3, 6, 7, 8, 34] ?_; simp only [Y, lkp, zE, reduceCtorEq, E, Z, D]
     refine aI ?_
     refine ⟨by first | exact .inl rfl | exact .inr rfl, _, rfl, ?_⟩; simp only [fzV, fz1, fzC, List.map_cons, List.map_nil, Y, lkp, zE, reduceCtorEq, E, Z, D, Dfa.av]
     refine VLE.of_eq ?_
     rw [sJ (j := j) (by omega) hst hq]; rfl
    ·(try simp only [zB, reduceCtorEq] at hc18)
     have hne : d.cn (j + 1) ≠ d.cn j := by have h9 := hc18; have h8 : d.cn (j + 1) = (cz (d.sg (d.cl j)) d.nx.length).length := rfl; omega
     refine aK ?_
     refine hK16 _ ?_; clear hK16; refine ae [1, 2, 3, 6, 7, 8, 34] ?_; simp only [Y, lkp, zE, reduceCtorEq, E, Z, D]
     refine ai hP hN rfl ?_
     iterate 4 (refine ad rfl fun K0 V => ?_; simp only [zE, op1, ev, lkp, ah, ag, ev, reduceCtorEq, E, D, J, U, O, S, Try.el26, Try.td26, Try.td3, Dfa.av]; refine V _ ?_; clear V K0; simp only [put, app, aa, af, zE, zS, D])
     refine aj ?_
     refine ⟨_, _, ?_, aO [1, 2, 3, 6], j + 1, fun q hq2 => ?_, rfl, rfl⟩
     · omega
     · by_cases e : q = j
       · rw [e]; exact hne
       · exact hq q (by omega)
end Go.Proofs.Ytdkgcbhbpdbmnaa
namespace Go.Proofs.Ytdkgcbhbpdbmnaa
open Go Go.AV
open Nat renaming reduceEqDiff → E, reduceAdd → D, reduceLeDiff → J, reduceLT → U, reduceMul → O, reduceSub → S
open List renaming set_cons_zero → aq, set_cons_succ → am
set_option maxRecDepth 100000 in
theorem rY (d : Dfa) (q : PP) (x : Nat) (hd : DOK d) (hq : inR d.nx.length 1 q) (hx : (x : Int) < d.inp) : bJ Try.prog 65 [.agg [.int .i64 q.1, .int .i64 q.2], .one (.int .i64 (x : Int)), .one (.pat (.list (.int .i64)) (fsL d.cls d.nx.length 0) 0), .one (.pat (.list (.int .i64)) d.cls 0), .one (.pat (.pair (.int .i64) (.pair (.int .i64) (.pair (.list (.list (.int .i64))) (.pair (.list .bool) .unit)))) (d.inp, (d.st, (d.nx, (d.acc, ())))) 0)] (.agg [.int .i64 (gF d q x).1, .int .i64 (gF d q x).2]) := by
 obtain ⟨r1, rl, t1, c1, e9⟩ := t6 hd hq hx
 have l1 := kX d; have l2 := km d.cls d.nx.length 0
 refine aS Try.func65 rfl (by kernel_rfl) (Nat.le_of_ble_eq_true rfl) rfl fun C hP hN hB => ?_
 replace hN : C.N = 24 := hN
 simp only [Z, D]
 refine ab fun K1 hK1 => ?_
 refine ai hP hN rfl ?_
 iterate 2 (refine ad rfl fun K0 V => ?_; simp only [zE, op1, ev, lkp, ah, ag, c0, au, bQ, reduceCtorEq, E, D, J, U, O, S, Try.ea81, Try.sa81, Try.td81]; (repeat refine And.intro (by first | omega | assumption | exact rfl) ?_); (first | refine V _ ?_ | refine Or.inl (V _ ?_)); clear V K0; simp only [put, app, aa, af, zE, zS, D])
 refine aj ?_
 refine hK1 _ ?_; clear hK1; refine ae [0, 1, 2, 3, 4, 5, 7] ?_; simp only [Y, lkp, zE, reduceCtorEq, E, Z, D]
 refine ab fun K2 hK2 => ?_
 refine bY hP hN Try.mixed rfl ?_
 iterate 17 (refine ad rfl fun K0 V => ?_; simp only [zE, op1, ev, lkp, ah, ag, az, Nat.mul_one, ax, ay, acs, Ty.dflt, zG, ao, aw, aJ, Ty.size, ne_eq, not_false_eq_true, Int.natCast_one, Int.mul_one, bW, bh, aQ, au, bj, aL, reduceCtorEq, E, D, J, U, O, S, Try.ea81, Try.el22, Try.el26, Try.sa81, Try.st25, Try.td2, Try.td22, Try.td25, Try.td26, Try.td3, Try.td81]; (repeat refine And.intro (by first | omega | assumption | exact rfl) ?_); (first | refine V _ ?_ | refine Or.inl (V _ ?_)); clear V K0; simp only [put, app, aa, af, zE, zS, D])
 refine aj ?_
 refine ⟨by kernel_rfl, ?_⟩
 refine hK2 _ ?_; clear hK2; refine ae [0, 1, 2, 3, 4, 5, 7] ?_; simp only [Y, lkp, zE, reduceCtorEq, E, Z, D]
 refine aI ?_
 refine ⟨by first | exact .inl rfl | exact .inr rfl, _, rfl, ?_⟩; simp only [fzV, fz1, fzC, List.map_cons, List.map_nil, Y, lkp, zE, reduceCtorEq, E, Z, D]
 refine VLE.of_eq ?_
 show AV.agg [.int .i64 _, .int .i64 0] = AV.agg [.int .i64 (d.rep (d.dl q.1 x)), .int .i64 0]
 rw [e9]
end Go.Proofs.Ytdkgcbhbpdbmnaa
namespace Go.Proofs.Ytdkgcbhbpdbmnaa
open Go Go.AV
open Nat renaming reduceEqDiff → E, reduceAdd → D, reduceLeDiff → J, reduceLT → U, reduceMul → O, reduceSub → S
open List renaming set_cons_zero → aq, set_cons_succ → am
set_option maxRecDepth 100000 in
theorem sH (d : Dfa) (q : PP) (hd : DOK d) (hq : inR d.nx.length 1 q) : bJ Try.prog 66 [.agg [.int .i64 q.1, .int .i64 q.2], .one (.pat (.pair (.int .i64) (.pair (.int .i64) (.pair (.list (.list (.int .i64))) (.pair (.list .bool) .unit)))) (d.inp, (d.st, (d.nx, (d.acc, ())))) 0)] (.one (.bool (eF d q))) := by
 have hrd := hd.rli hq.1; have hsd : ((d.nx.getD q.1.toNat []).length : Int) = d.inp := hrd; have htd := hq.1; have hud := hd.al
 refine aS Try.func66 rfl (by kernel_rfl) (Nat.le_of_ble_eq_true rfl) rfl fun C hP hN hB => ?_
 replace hN : C.N = 10 := hN
 simp only [Z, D]
 refine ab fun K1 hK1 => ?_
 refine ai hP hN rfl ?_
 iterate 2 (refine ad rfl fun K0 V => ?_; simp only [zE, op1, ev, lkp, ah, ag, c0, au, reduceCtorEq, E, D, J, U, O, S, Try.ea81, Try.sa81, Try.td4, Try.td81]; (repeat refine And.intro (by first | omega | assumption | exact rfl) ?_); refine V _ ?_; clear V K0; simp only [put, app, aa, af, zE, zS, D])
 refine aj ?_
 refine hK1 _ ?_; clear hK1; refine ae [0, 1, 2, 3] ?_; simp only [Y, lkp, zE, reduceCtorEq, E, Z, D]
 refine ab fun K2 hK2 => ?_
 refine ai hP hN rfl ?_
 iterate 7 (refine ad rfl fun K0 V => ?_; simp only [zE, op1, ev, lkp, ah, ag, aw, az, Nat.mul_one, ax, ay, acs, Ty.dflt, zG, ao, aJ, Ty.size, ne_eq, not_false_eq_true, Int.natCast_one, Int.mul_one, reduceCtorEq, E, D, J, U, O, S, Try.ea81, Try.el23, Try.sa81, Try.st25, Try.td23, Try.td25, Try.td3, Try.td4, Try.td81]; (repeat refine And.intro (by first | omega | assumption | exact rfl) ?_); refine V _ ?_; clear V K0; simp only [put, app, aa, af, zE, zS, D])
 refine aj ?_
 refine hK2 _ ?_; clear hK2; refine ae [0, 1, 2, 3] ?_; simp only [Y, lkp, zE, reduceCtorEq, E, Z, D]
 refine aI ?_
 refine ⟨by first | exact .inl rfl | exact .inr rfl, _, rfl, ?_⟩; simp only [fzV, fz1, fzC, List.map_cons, List.map_nil, Y, lkp, zE, reduceCtorEq, E, Z, D]
 refine VLE.of_eq ?_
 rfl
end Go.Proofs.Ytdkgcbhbpdbmnaa
namespace Go.Proofs.Ytdkgcbhbpdbmnaa
open Go Go.AV
open Nat renaming reduceEqDiff → E, reduceAdd → D, reduceLeDiff → J, reduceLT → U, reduceMul → O, reduceSub → S
open List renaming set_cons_zero → aq, set_cons_succ → am
set_option maxRecDepth 100000 in
set_option maxHeartbeats 1000000 in
theorem sx (d : Dfa) : bJ Try.prog 26 [d.av] (.tup [(kY d).av, .one (.int .i64 (bo d))]) := by
 refine aS Try.func26 rfl (by kernel_rfl) (Nat.le_of_ble_eq_true rfl) rfl fun C hP hN hB => ?_
 replace hN : C.N = 52 := hN
 simp only [Z, D]
 refine ab fun K1 hK1 => ?_
 refine ai hP hN rfl ?_
 iterate 3 (refine ad rfl fun K0 V => ?_; simp only [zE, op1, ev, lkp, ah, ag, c0, au, bQ, reduceCtorEq, E, D, J, U, O, S, Try.st25, Try.td25, Try.td29, Dfa.av]; (repeat refine And.intro (by first | omega | assumption | exact rfl) ?_); (first | refine V _ ?_ | refine Or.inl (V _ ?_)); clear V K0; simp only [put, app, aa, af, zE, zS, D])
 refine aj ?_
 refine hK1 _ ?_; clear hK1; refine ae [0, 1, 2, 3] ?_; simp only [Y, lkp, zE, reduceCtorEq, E, Z, D]
 refine ab fun K2 hK2 => ?_
 refine ab fun K3 hK3 => ?_
 refine ai hP hN rfl ?_
 (refine ad rfl fun K0 V => ?_; simp only [zE, op1, ev, lkp, ah, ag, az, Nat.mul_one, ax, ay, acs, Ty.dflt, zG, ao, reduceCtorEq, E, D, J, U, O, S, Try.st25, Try.td25, Dfa.av]; (repeat refine And.intro (by first | omega | assumption | exact rfl) ?_); refine V _ ?_; clear V K0; simp only [put, app, aa, af, zE, zS, D])
 refine ad rfl fun K0 V => ?_
 refine aW (h := aG (dt d)) rfl rfl (by first | exact rfl | (simp only [ev, Y, lkp, zE, reduceCtorEq, E, Z, D]; exact rfl)) (by simp only [zE, zG, op1, ev, lkp, ah, ag, au, acs, ba, mv1, mvC, Ty.dflt, reduceCtorEq, E, D, J, U, O, S, Dfa.av]) ?_
 refine V _ ?_; clear V K0; simp only [put, app, aa, af, zE, zS, D]
 (refine ad rfl fun K0 V => ?_; simp only [zE, op1, ev, lkp, ah, ag, ev, reduceCtorEq, E, D, J, U, O, S, Try.td29, Dfa.av]; refine V _ ?_; clear V K0; simp only [put, app, aa, af, zE, zS, D])
 refine aj ?_
 refine hK3 _ ?_; clear hK3; refine ae [0, 1, 2, 3, 4] ?_; simp only [Y, lkp, zE, reduceCtorEq, E, Z, D]
 refine ab fun K4 hK4 => ?_
 refine ai hP hN rfl ?_
 iterate 2 (refine ad rfl fun K0 V => ?_; simp only [zE, op1, ev, lkp, ah, ag, aE, aC, aD, ar, aB, aN, reduceCtorEq, E, D, J, U, O, S, Try.td29, Try.td4, Dfa.av]; (repeat refine And.intro (by first | omega | assumption | exact rfl) ?_); refine V _ ?_; clear V K0; simp only [put, app, aa, af, zE, zS, D])
 refine aj ?_
 refine hK4 _ ?_; clear hK4; refine ae [0, 1, 2, 3, 4, 12] ?_; simp only [Y, lkp, zE, reduceCtorEq, E, Z, D]
 refine aF (by simp only [ev, Y, lkp, zE, reduceCtorEq, E, Z, D]; exact rfl) (fun hc5 => ?_) (fun hc5 => ?_)
 ·(try simp only [zB, reduceCtorEq] at hc5)
  refine ab fun K6 hK6 => ?_
  refine ai hP hN rfl ?_
  iterate 4 (refine ad rfl fun K0 V => ?_; simp only [zE, op1, ev, lkp, ah, ag, bW, bh, aQ, au, bj, Nat.mul_one, aL, acs, Ty.size, Ty.dflt, zG, reduceCtorEq, E, D, J, U, O, S, Try.st25, Try.td25, Try.td29, Dfa.av]; (repeat refine And.intro (by first | omega | assumption | exact rfl) ?_); (first | refine V _ ?_ | refine Or.inl (V _ ?_)); clear V K0; simp only [put, app, aa, af, zE, zS, D])
  refine aj ?_
  refine hK6 _ ?_; clear hK6; refine ae [0, 1, 2, 3, 4, 12] ?_; simp only [Y, lkp, zE, reduceCtorEq, E, Z, D]
  refine aI ?_
  refine ⟨by first | exact .inl rfl | exact .inr rfl, _, rfl, ?_⟩; simp only [fzV, fz1, fzC, List.map_cons, List.map_nil, Y, lkp, zE, reduceCtorEq, E, Z, D, Dfa.av]
  first
  | (have e1 : kY d = dr := if_neg (by assumption)
     rw [e1]; exact bz ⟨bU ⟨.refl _, .refl _, aT rfl, aT rfl, trivial⟩, aR (.refl _), trivial⟩)
  | (have g9 := mb hd; obtain ⟨g1, g2⟩ := g9
     unfold i5 at g1 g2
     simp only [Nat.mul_one] at g1 g2
     rw [hv, ← g1]; refine VLE.of_eq ?_; rw [g2]; rfl)
 ·(try simp only [zB, reduceCtorEq] at hc5)
  have hv : bo d = 0 := by omega
  have hd := ef hv; have a1 := hd.i1; have a2 := hd.i2; have a3 := hd.n1; have a4 := hd.n2; have a5 := hd.s1; have a6 := hd.s2; have a7 := hd.al
  have l1 := kX d
  refine aK ?_
  refine hK2 _ ?_; clear hK2; refine ae [0, 1, 2, 3, 4, 12] ?_; simp only [Y, lkp, zE, reduceCtorEq, E, Z, D]
  refine ab fun K7 hK7 => ?_
  refine ai hP hN rfl ?_
  (refine ad rfl fun K0 V => ?_; simp only [zE, op1, ev, lkp, ah, ag, az, Nat.mul_one, ax, ay, acs, Ty.dflt, zG, ao, reduceCtorEq, E, D, J, U, O, S, Try.st25, Try.td25, Dfa.av]; (repeat refine And.intro (by first | omega | assumption | exact rfl) ?_); refine V _ ?_; clear V K0; simp only [put, app, aa, af, zE, zS, D])
  refine ad rfl fun K0 V => ?_
  refine aW (h := aG (pX d hd)) rfl rfl (by first | exact rfl | (simp only [ev, Y, lkp, zE, reduceCtorEq, E, Z, D]; exact rfl)) (by simp only [zE, zG, op1, ev, lkp, ah, ag, au, acs, ba, mv1, mvC, Ty.dflt, reduceCtorEq, E, D, J, U, O, S, Dfa.av]) ?_
  refine V _ ?_; clear V K0; simp only [put, app, aa, af, zE, zS, D]
  iterate 2 (refine ad rfl fun K0 V => ?_; simp only [zE, op1, ev, lkp, ah, ag, bQ, bj, Nat.mul_one, au, aQ, aL, acs, Ty.size, Ty.dflt, zG, reduceCtorEq, E, D, J, U, O, S, Try.el26, Try.td26, Dfa.av]; (repeat refine And.intro (by first | omega | assumption | exact rfl) ?_); (first | refine V _ ?_ | refine Or.inl (V _ ?_)); clear V K0; simp only [put, app, aa, af, zE, zS, D])
  refine aj ?_
  refine hK7 _ ?_; clear hK7; refine ae [0, 1, 2, 3, 4, 5, 12] ?_; simp only [Y, lkp, zE, reduceCtorEq, E, Z, D]
  refine ab fun K8 hK8 => ?_
  refine ai hP hN rfl ?_
  iterate 6 (refine ad rfl fun K0 V => ?_; simp only [zE, op1, ev, lkp, ah, ag, aw, az, Nat.mul_one, ax, ay, acs, Ty.dflt, zG, ao, aH, bu, bb, aY, aZ, br, Nat.div_one, aM, b0, Ty.size, aL, dite_true, cD, bQ, bj, au, aQ, reduceCtorEq, E, D, J, U, O, S, Try.el22, Try.el26, Try.st25, Try.td2, Try.td22, Try.td25, Try.td26, Try.td3, Dfa.av]; (repeat refine And.intro (by first | omega | assumption | exact rfl) ?_); (first | refine V _ ?_ | refine Or.inl (V _ ?_)); clear V K0; simp only [put, app, aa, af, zE, zS, D])
  refine aj ?_
  refine hK8 _ ?_; clear hK8; refine ae [0, 1, 2, 3, 4, 5, 6, 12] ?_; simp only [Y, lkp, zE, reduceCtorEq, E, Z, D]
  refine ab fun K9 hK9 => ?_
  refine ab fun K10 hK10 => ?_
  refine ai hP hN rfl ?_
  iterate 4 (refine ad rfl fun K0 V => ?_; simp only [zE, op1, ev, lkp, ah, ag, az, Nat.mul_one, ax, ay, acs, Ty.dflt, zG, ao, aH, bu, bb, aY, aZ, br, Nat.div_one, aM, b0, Ty.size, aL, dite_true, aE, aC, aD, ar, aB, aN, reduceCtorEq, E, D, J, U, O, S, Try.el26, Try.td26, Try.td3, Dfa.av, l1]; (repeat refine And.intro (by first | omega | assumption | exact rfl) ?_); (first | refine V _ ?_ | refine Or.inl (V _ ?_)); clear V K0; simp only [put, app, aa, af, zE, zS, D])
  refine aj ?_
  refine hK10 _ ?_; clear hK10; refine ae [0, 1, 2, 3, 4, 5, 6, 7, 12] ?_; simp only [Y, lkp, zE, reduceCtorEq, E, Z, D]
  refine aP ?_
  refine bG (fun n11 s11 => ∃ (k : Nat), (k ≤ d.nx.length) ∧ n11 = k + 1 ∧ s11 = { env := [(1, .one (.ptr 0 0 0 0)), (2, .one (.ptr 1 0 0 0)), (3, .one (.int .i64 0)), (5, .one (.ptr 2 0 0 0)), (6, .one (.ptr 4 0 0 0)), (7, .one (.int .i64 ((k : Int) - 1)))], L := [.vars 25 [.int .i64 d.inp, .int .i64 d.st, .list (.list (.int .i64)) d.nx, .list .bool d.acc], .vars 25 [.int .i64 0, .int .i64 0, .nils, .nils], .vars 26 [.list (.int .i64) d.cls], .row (.int .i64) 3 0 (fsL d.cls d.nx.length k), .vars 26 [.row 3 0]] }) ?_ ?_
  ·refine ⟨_, _, aO [1, 2, 3, 5, 6, 7], d.nx.length, by omega, rfl, ?_⟩
   rw [qb]; rfl
  ·rintro n11 s11 ⟨k, hk, rfl, rfl⟩
   refine ab fun K12 hK12 => ?_
   refine ab fun K13 hK13 => ?_
   refine ai hP hN rfl ?_
   iterate 2 (refine ad rfl fun K0 V => ?_; simp only [zE, op1, ev, lkp, ah, ag, aE, aC, aD, ar, aB, aN, reduceCtorEq, E, D, J, U, O, S, Try.td3, Try.td4, Dfa.av]; (repeat refine And.intro (by first | omega | assumption | exact rfl) ?_); refine V _ ?_; clear V K0; simp only [put, app, aa, af, zE, zS, D])
   refine aj ?_
   refine hK13 _ ?_; clear hK13; refine ae [1, 2, 3, 5, 6, 7, 25] ?_; simp only [Y, lkp, zE, reduceCtorEq, E, Z, D]
   refine aF (by simp only [ev, Y, lkp, zE, reduceCtorEq, E, Z, D]; exact rfl) (fun hc14 => ?_) (fun hc14 => ?_)
   ·(try simp only [zB, reduceCtorEq] at hc14)
    refine aK ?_
    refine hK12 _ ?_; clear hK12; refine ae [1, 2, 3, 5, 6, 7, 25] ?_; simp only [Y, lkp, zE, reduceCtorEq, E, Z, D]
    refine ab fun K15 hK15 => ?_
    refine aP ?_
    have hc9 := gp (d := d) (s := k - 1) (by omega)
    have hk9 : ((k : Int) - 1).toNat = k - 1 := by omega
    have l2 := km d.cls d.nx.length k
    refine bY hP hN Try.mixed rfl ?_
    iterate 8 (refine ad rfl fun K0 V => ?_; simp only [zE, op1, ev, lkp, ah, ag, az, Nat.mul_one, ax, ay, acs, Ty.dflt, zG, ao, aJ, Ty.size, ne_eq, not_false_eq_true, Int.natCast_one, Int.mul_one, bj, au, aQ, aL, reduceCtorEq, E, D, J, U, O, S, Try.el26, Try.td26, Try.td3, Dfa.av, hk9]; (repeat refine And.intro (by first | omega | assumption | exact rfl) ?_); refine V _ ?_; clear V K0; simp only [put, app, aa, af, zE, zS, D])
    refine aj ?_
    refine ⟨by kernel_rfl, ?_⟩
    refine hK15 _ ?_; clear hK15; refine ae [1, 2, 3, 5, 6, 7, 25] ?_; simp only [Y, lkp, zE, reduceCtorEq, E, Z, D]
    refine ai hP hN rfl ?_
    iterate 3 (refine ad rfl fun K0 V => ?_; simp only [zE, op1, ev, lkp, ah, ag, aE, aC, aD, ar, aB, aN, reduceCtorEq, E, D, J, U, O, S, Try.td3, Dfa.av]; (repeat refine And.intro (by first | omega | assumption | exact rfl) ?_); refine V _ ?_; clear V K0; simp only [put, app, aa, af, zE, zS, D])
    refine aj ?_
    refine ⟨_, _, ?_, aO [1, 2, 3, 5, 6, 7], k - 1, by omega, rfl, ?_⟩
    · omega
    · have h8 := rz (cl := d.cls) (n := d.nx.length) (s := k - 1) (by omega) hc9
      rw [show k - 1 + 1 = k by omega] at h8
      rw [← h8]; first | rfl | (rw [show ((k - 1 : Nat) : Int) = (k : Int) - 1 by omega]; rfl)
   ·(try simp only [zB, reduceCtorEq] at hc14)
    refine bD ?_
    refine hK9 _ ?_; clear hK9; refine ae [1, 2, 3, 5, 6, 7, 25] ?_; simp only [Y, lkp, zE, reduceCtorEq, E, Z, D]
    refine ab fun K16 hK16 => ?_
    refine cB 3 4 rfl rfl ?_; simp only [List.map_cons, List.map_nil, frC, zS, E, and_self, and_true, true_and, and_false, false_and, if_true, if_false, eq_self, reduceCtorEq, Nat.one_ne_zero, Nat.zero_ne_one]
    obtain rfl : k = 0 := by omega
    refine cv 4 (.list (.int .i64)) rfl rfl ?_; simp only [List.map_cons, List.map_nil, shV, if_true, zS, if_false, eq_self, E, reduceCtorEq, Nat.one_ne_zero, Nat.zero_ne_one]
    refine cv 2 (.list (.int .i64)) rfl rfl ?_; simp only [List.map_cons, List.map_nil, shV, if_true, zS, if_false, eq_self, E, reduceCtorEq, Nat.one_ne_zero, Nat.zero_ne_one]
    refine cv 0 (.pair (.int .i64) (.pair (.int .i64) (.pair (.list (.list (.int .i64))) (.pair (.list .bool) .unit)))) rfl rfl ?_; simp only [List.map_cons, List.map_nil, shV, if_true, zS, if_false, eq_self, E, reduceCtorEq, Nat.one_ne_zero, Nat.zero_ne_one]
    refine ai hP hN rfl ?_
    iterate 2 (refine ad rfl fun K0 V => ?_; simp only [zE, op1, ev, lkp, ah, ag, cp, cK, di, reduceCtorEq, E, D, J, U, O, S, Try.td82, Dfa.av]; (repeat refine And.intro (by first | omega | assumption | exact rfl) ?_); (first | refine V _ ?_ | refine Or.inl (V _ ?_)); clear V K0; simp only [put, app, aa, af, zE, zS, D])
    refine aj ?_
    refine hK16 _ ?_; clear hK16; refine ae [1, 2, 3, 5, 6, 7, 8, 25] ?_; simp only [Y, lkp, zE, reduceCtorEq, E, Z, D]
    refine ab fun K17 hK17 => ?_
    have hcs := gp (d := d) (s := d.st.toNat) (by omega)
    have l2 := km d.cls d.nx.length 0
    refine bY hP hN Try.mixed rfl ?_
    iterate 13 (refine ad rfl fun K0 V => ?_; simp only [zE, op1, ev, lkp, ah, ag, az, Nat.mul_one, ax, ay, acs, Ty.dflt, zG, ao, aw, aJ, Ty.size, ne_eq, not_false_eq_true, Int.natCast_one, Int.mul_one, bW, bh, aQ, au, cp, cK, di, reduceCtorEq, E, D, J, U, O, S, Try.ea81, Try.el26, Try.sa81, Try.st25, Try.td1, Try.td25, Try.td26, Try.td3, Try.td81, Try.td82, Try.td87, Dfa.av]; (repeat refine And.intro (by first | omega | assumption | exact rfl) ?_); (first | refine V _ ?_ | refine Or.inl (V _ ?_)); clear V K0; simp only [put, app, aa, af, zE, zS, D])
    refine ad rfl fun K0 V => ?_
    refine aW (h := aG (gv d.inp.toNat 65 66 [.pat (.list (.int .i64)) (fsL d.cls d.nx.length 0), .pat (.list (.int .i64)) d.cls, .pat (.pair (.int .i64) (.pair (.int .i64) (.pair (.list (.list (.int .i64))) (.pair (.list .bool) .unit)))) (d.inp, (d.st, (d.nx, (d.acc, ()))))] [.pat (.pair (.int .i64) (.pair (.int .i64) (.pair (.list (.list (.int .i64))) (.pair (.list .bool) .unit)))) (d.inp, (d.st, (d.nx, (d.acc, ()))))] (gF d) (eF d) (d.rep d.st, 0) d.nx.length 1 d.inp (by omega) rfl rfl (by omega) (by omega) (by omega) (by omega) (oz hd) (md hd (by omega)) (fun q x hq hx => rY d q x hd hq (by omega)) (fun q hq => sH d q hd hq))) rfl rfl (by first | exact rfl | (simp only [ev, Y, lkp, zE, reduceCtorEq, E, Z, D]; exact rfl)) (by simp only [zE, zG, op1, ev, lkp, ah, ag, au, acs, ba, mv1, mvC, Ty.dflt, reduceCtorEq, E, D, J, U, O, S, Dfa.av, Dfa.rep]) ?_
    refine V _ ?_; clear V K0; simp only [put, app, aa, af, zE, zS, D]
    iterate 4 (refine ad rfl fun K0 V => ?_; simp only [zE, op1, ev, lkp, ah, ag, bI, bj, Nat.mul_one, au, aQ, aL, acs, Ty.size, Ty.dflt, zG, reduceCtorEq, E, D, J, U, O, S, Try.st25, Try.td1, Try.td25, Try.td29, Dfa.av]; (repeat refine And.intro (by first | omega | assumption | exact rfl) ?_); refine V _ ?_; clear V K0; simp only [put, app, aa, af, zE, zS, D])
    refine aj ?_
    refine ⟨by kernel_rfl, ?_⟩
    refine hK17 _ ?_; clear hK17; refine ae [1, 2, 3, 5, 6, 7, 8, 25] ?_; simp only [Y, lkp, zE, reduceCtorEq, E, Z, D]
    refine aI ?_
    refine ⟨by first | exact .inl rfl | exact .inr rfl, _, rfl, ?_⟩; simp only [fzV, fz1, fzC, List.map_cons, List.map_nil, Y, lkp, zE, reduceCtorEq, E, Z, D, Dfa.av]
    first
    | (have e1 : kY d = dr := if_neg (by assumption)
       rw [e1]; exact bz ⟨bU ⟨.refl _, .refl _, aT rfl, aT rfl, trivial⟩, aR (.refl _), trivial⟩)
    | (have g9 := mb hd; obtain ⟨g1, g2⟩ := g9
       unfold i5 at g1 g2
       simp only [Nat.mul_one] at g1 g2
       rw [hv, ← g1]; refine VLE.of_eq ?_; rw [g2]; rfl)
end Go.Proofs.Ytdkgcbhbpdbmnaa
namespace Go.Proofs.Ytdkgcbhbpdbmnaa
open Go Go.AV
open Nat renaming reduceEqDiff → E, reduceAdd → D, reduceLeDiff → J, reduceLT → U, reduceMul → O, reduceSub → S
open List renaming set_cons_zero → aq, set_cons_succ → am
set_option maxRecDepth 100000 in
theorem sQ (a b : List Int) : bJ Try.prog 53 [.one (.list (.int .i64) a), .one (.list (.int .i64) b)] (.one (.int .i64 (cmn a b : Int))) := by
 refine aS Try.func53 rfl (by kernel_rfl) (Nat.le_of_ble_eq_true rfl) rfl fun C hP hN hB => ?_
 replace hN : C.N = 30 := hN
 simp only [Z, D]
 refine dV 0 rfl fun hf0 => ?_; simp only [lkp, if_true, if_false, reduceCtorEq, E, eq_self, Nat.one_ne_zero, Nat.zero_ne_one, gK, gd, fU, Fit, and_true, implies_true, true_and] at hf0
 refine ab fun K1 hK1 => ?_
 refine ai hP hN rfl ?_
 (refine ad rfl fun K0 V => ?_; simp only [zE, op1, ev, lkp, ah, ag, ev, reduceCtorEq, E, D, J, U, O, S, Try.td3]; refine V _ ?_; clear V K0; simp only [put, app, aa, af, zE, zS, D])
 refine aj ?_
 refine hK1 _ ?_; clear hK1; refine ae [0, 1, 4] ?_; simp only [Y, lkp, zE, reduceCtorEq, E, Z, D]
 refine ab fun K2 hK2 => ?_
 refine ai hP hN rfl ?_
 (refine ad rfl fun K0 V => ?_; simp only [zE, op1, ev, lkp, ah, ag, ev, reduceCtorEq, E, D, J, U, O, S, Try.td3]; refine V _ ?_; clear V K0; simp only [put, app, aa, af, zE, zS, D])
 refine aj ?_
 refine hK2 _ ?_; clear hK2; refine ae [0, 1, 4, 5] ?_; simp only [Y, lkp, zE, reduceCtorEq, E, Z, D]
 refine ab fun K3 hK3 => ?_
 refine aP ?_
 refine bG (fun n4 s4 => ∃ (k : Nat), (k ≤ a.length) ∧ (k ≤ b.length) ∧ (∀ q, q < k → a.getD q 0 = b.getD q 0) ∧ n4 = a.length - k ∧ s4 = { env := [(0, .one (.list (.int .i64) a)), (1, .one (.list (.int .i64) b)), (4, .one (.int .i64 0)), (5, .one (.int .i64 (k : Int)))], L := [] }) ?_ ?_
 ·exact ⟨_, _, aO [0, 1, 4, 5], 0, Nat.zero_le _, Nat.zero_le _, fun q hq => by omega, rfl, rfl⟩
 ·rintro n4 s4 ⟨k, hk, hkb, hq, rfl, rfl⟩
  refine ab fun K5 hK5 => ?_
  refine ab fun K6 hK6 => ?_
  refine bY hP hN Try.mixed rfl ?_
  iterate 4 (refine ad rfl fun K0 V => ?_; simp only [zE, op1, ev, lkp, ah, ag, aH, bu, bb, aY, aZ, br, Nat.div_one, aM, b0, Ty.size, aL, dite_true, aE, aC, aD, ar, aB, aN, reduceCtorEq, E, D, J, U, O, S, Try.el26, Try.td26, Try.td3, Try.td4]; (repeat refine And.intro (by first | omega | assumption | exact rfl) ?_); (first | refine V _ ?_ | refine Or.inl (V _ ?_)); clear V K0; simp only [put, app, aa, af, zE, zS, D])
  (refine ad rfl fun K0 V => ?_; simp only [zE, op1, ev, lkp, ah, ag, ev, reduceCtorEq, E, D, J, U, O, S, Try.td4]; refine V _ ?_; clear V K0; simp only [put, app, aa, af, zE, zS, D])
  refine' aU (want := true) 4 rfl (m := 10) (by simp only [Y, lkp, zE, reduceCtorEq, E, Z, D]; exact rfl) (by kernel_rfl) rfl rfl rfl rfl rfl (fun hg7 => ?a7) ?b7 ?c7
  case a7 =>
   have hq7 := hg7; (try simp only [zB, reduceCtorEq] at hg7); simp only [List.take_succ_cons, List.take_zero, List.cons_append, List.nil_append]
   (refine aA rfl fun K0 V => ?_; simp only [zE, op1, ev, lkp, ah, ag, ev, reduceCtorEq, E, D, J, U, O, S, Try.td3]; refine V _ ?_; clear V K0; simp only [put, app, aa, af, zE, zS, D])
   (refine aA rfl fun K0 V => ?_; simp only [zE, op1, ev, lkp, ah, ag, ev, reduceCtorEq, E, D, J, U, O, S, Try.el26, Try.td26]; refine V _ ?_; clear V K0; simp only [put, app, aa, af, zE, zS, D])
   (refine aA rfl fun K0 V => ?_; simp only [zE, op1, ev, lkp, ah, ag, aH, bu, bb, aY, aZ, br, Nat.div_one, aM, b0, Ty.size, aL, dite_true, reduceCtorEq, E, D, J, U, O, S, Try.el26, Try.td26, Try.td3]; (repeat refine And.intro (by first | omega | assumption | exact rfl) ?_); (first | refine V _ ?_ | refine Or.inl (V _ ?_)); clear V K0; simp only [put, app, aa, af, zE, zS, D])
   (refine aA rfl fun K0 V => ?_; simp only [zE, op1, ev, lkp, ah, ag, aE, aC, aD, ar, aB, aN, reduceCtorEq, E, D, J, U, O, S, Try.td3, Try.td4]; (repeat refine And.intro (by first | omega | assumption | exact rfl) ?_); refine V _ ?_; clear V K0; simp only [put, app, aa, af, zE, zS, D])
   (refine ad rfl fun K0 V => ?_; simp only [zE, op1, ev, lkp, ah, ag, bm, reduceCtorEq, E, D, J, U, O, S, Try.td4]; refine V _ ?_; clear V K0; simp only [put, app, aa, af, zE, zS, D])
   refine aj ?_
   refine ⟨by simp only [Y, lkp, zE, reduceCtorEq, E, Z, D]; exact rfl, rfl, ?_, rfl⟩; (repeat refine aV rfl ?_); exact bt (by exact rfl) hq7
  case b7 => exact bq (by first | rfl | (simp [bS]; done) | decide)
  simp only [bg, aX]
  (refine ad rfl fun K0 V => ?_; simp only [zE, op1, ev, lkp, ah, ag, ev, reduceCtorEq, E, D, J, U, O, S, Try.td4]; refine V _ ?_; clear V K0; simp only [put, app, aa, af, zE, zS, D])
  refine' aU (want := true) 9 rfl (m := 16) (by simp only [Y, lkp, zE, reduceCtorEq, E, Z, D]; exact rfl) (by kernel_rfl) rfl rfl rfl rfl rfl (fun hg8 => ?a8) ?b8 ?c8
  case a8 =>
   have hq8 := hg8; (try simp only [zB, reduceCtorEq] at hg8); simp only [List.take_succ_cons, List.take_zero, List.cons_append, List.nil_append]
   (refine aA rfl fun K0 V => ?_; simp only [zE, op1, ev, lkp, ah, ag, ev, reduceCtorEq, E, D, J, U, O, S, Try.el26, Try.td26]; refine V _ ?_; clear V K0; simp only [put, app, aa, af, zE, zS, D])
   (refine aA rfl fun K0 V => ?_; simp only [zE, op1, ev, lkp, ah, ag, ev, reduceCtorEq, E, D, J, U, O, S, Try.td3]; refine V _ ?_; clear V K0; simp only [put, app, aa, af, zE, zS, D])
   (refine aA rfl fun K0 V => ?_; simp only [zE, op1, ev, lkp, ah, ag, aJ, zG, Ty.dflt, Ty.size, Nat.mul_one, ne_eq, not_false_eq_true, Int.natCast_one, Int.mul_one, reduceCtorEq, E, D, J, U, O, S, Try.el26, Try.td26]; (repeat refine And.intro (by first | omega | assumption | exact rfl) ?_); refine V _ ?_; clear V K0; simp only [put, app, aa, af, zE, zS, D])
   (refine aA rfl fun K0 V => ?_; simp only [zE, op1, ev, lkp, ah, ag, az, Nat.mul_one, ax, ay, acs, Ty.dflt, zG, ao, reduceCtorEq, E, D, J, U, O, S, Try.td3]; (repeat refine And.intro (by first | omega | assumption | exact rfl) ?_); refine V _ ?_; clear V K0; simp only [put, app, aa, af, zE, zS, D])
   (refine aA rfl fun K0 V => ?_; simp only [zE, op1, ev, lkp, ah, ag, ev, reduceCtorEq, E, D, J, U, O, S, Try.el26, Try.td26]; refine V _ ?_; clear V K0; simp only [put, app, aa, af, zE, zS, D])
   (refine aA rfl fun K0 V => ?_; simp only [zE, op1, ev, lkp, ah, ag, ev, reduceCtorEq, E, D, J, U, O, S, Try.td3]; refine V _ ?_; clear V K0; simp only [put, app, aa, af, zE, zS, D])
   (refine aA rfl fun K0 V => ?_; simp only [zE, op1, ev, lkp, ah, ag, aJ, zG, Ty.dflt, Ty.size, Nat.mul_one, ne_eq, not_false_eq_true, Int.natCast_one, Int.mul_one, reduceCtorEq, E, D, J, U, O, S, Try.el26, Try.td26]; (repeat refine And.intro (by first | omega | assumption | exact rfl) ?_); refine V _ ?_; clear V K0; simp only [put, app, aa, af, zE, zS, D])
   (refine aA rfl fun K0 V => ?_; simp only [zE, op1, ev, lkp, ah, ag, az, Nat.mul_one, ax, ay, acs, Ty.dflt, zG, ao, reduceCtorEq, E, D, J, U, O, S, Try.td3]; (repeat refine And.intro (by first | omega | assumption | exact rfl) ?_); refine V _ ?_; clear V K0; simp only [put, app, aa, af, zE, zS, D])
   (refine aA rfl fun K0 V => ?_; simp only [zE, op1, ev, lkp, ah, ag, aE, aC, aD, ar, aB, aN, reduceCtorEq, E, D, J, U, O, S, Try.td3, Try.td4]; (repeat refine And.intro (by first | omega | assumption | exact rfl) ?_); refine V _ ?_; clear V K0; simp only [put, app, aa, af, zE, zS, D])
   (refine ad rfl fun K0 V => ?_; simp only [zE, op1, ev, lkp, ah, ag, bm, reduceCtorEq, E, D, J, U, O, S, Try.td4]; refine V _ ?_; clear V K0; simp only [put, app, aa, af, zE, zS, D])
   refine aj ?_
   refine ⟨by simp only [Y, lkp, zE, reduceCtorEq, E, Z, D]; exact rfl, rfl, ?_, rfl⟩; (repeat refine aV rfl ?_); exact bt (by exact rfl) hq8
  case b8 => exact bq (by first | rfl | (simp [bS]; done) | decide)
  simp only [bg, aX]
  refine aj ?_
  refine ⟨by kernel_rfl, ?_⟩
  refine hK6 _ ?_; clear hK6; refine ae [0, 1, 4, 5, 26] ?_; simp only [Y, lkp, zE, reduceCtorEq, E, Z, D]
  refine aF (by simp only [ev, Y, lkp, zE, reduceCtorEq, E, Z, D]; exact rfl) (fun hc9 => ?_) (fun hc9 => ?_)
  ·(try simp only [zB, reduceCtorEq] at hc9)
   have h3 : k < a.length ∧ k < b.length ∧ a.getD k 0 = b.getD k 0 := by have h9 := hc9; omega
   refine aK ?_
   refine hK5 _ ?_; clear hK5; refine ae [0, 1, 4, 5, 26] ?_; simp only [Y, lkp, zE, reduceCtorEq, E, Z, D]
   refine aP ?_
   refine ai hP hN rfl ?_
   iterate 3 (refine ad rfl fun K0 V => ?_; simp only [zE, op1, ev, lkp, ah, ag, aE, aC, aD, ar, aB, aN, reduceCtorEq, E, D, J, U, O, S, Try.td3]; (repeat refine And.intro (by first | omega | assumption | exact rfl) ?_); refine V _ ?_; clear V K0; simp only [put, app, aa, af, zE, zS, D])
   refine aj ?_
   refine ⟨_, _, ?_, aO [0, 1, 4, 5], k + 1, by omega, by omega, fun q hq2 => ?_, rfl, rfl⟩
   · omega
   · by_cases e : q = k
     · rw [e]; exact h3.2.2
     · exact hq q (by omega)
  ·(try simp only [zB, reduceCtorEq] at hc9)
   have hs : ¬ (k < a.length ∧ k < b.length ∧ a.getD k 0 = b.getD k 0) := by have h9 := hc9; omega
   refine bD ?_
   refine hK3 _ ?_; clear hK3; refine ae [0, 1, 4, 5, 26] ?_; simp only [Y, lkp, zE, reduceCtorEq, E, Z, D]
   refine ab fun K10 hK10 => ?_
   refine ai hP hN rfl ?_
   iterate 2 (refine ad rfl fun K0 V => ?_; simp only [zE, op1, ev, lkp, ah, ag, ev, reduceCtorEq, E, D, J, U, O, S, Try.td3]; refine V _ ?_; clear V K0; simp only [put, app, aa, af, zE, zS, D])
   refine aj ?_
   refine hK10 _ ?_; clear hK10; refine ae [0, 1, 4, 5, 26] ?_; simp only [Y, lkp, zE, reduceCtorEq, E, Z, D]
   refine aI ?_
   refine ⟨by first | exact .inl rfl | exact .inr rfl, _, rfl, ?_⟩; simp only [fzV, fz1, fzC, List.map_cons, List.map_nil, Y, lkp, zE, reduceCtorEq, E, Z, D]
   refine VLE.of_eq ?_
   refine congrArg (fun n => AV.one (AC.int IntKind.i64 n)) ?_
   rw [oW hq hk hkb hs]
end Go.Proofs.Ytdkgcbhbpdbmnaa
namespace Go.Proofs.Ytdkgcbhbpdbmnaa
open Go Go.AV
open Nat renaming reduceEqDiff → E, reduceAdd → D, reduceLeDiff → J, reduceLT → U, reduceMul → O, reduceSub → S
open List renaming set_cons_zero → aq, set_cons_succ → am
set_option maxRecDepth 100000 in
theorem oH (a b : List Int) : bJ Try.prog 21 [.one (.list (.int .i64) a), .one (.list (.int .i64) b)] (.one (.bool (decide (a = b)))) := by
 refine aS Try.func21 rfl (by kernel_rfl) (Nat.le_of_ble_eq_true rfl) rfl fun C hP hN hB => ?_
 replace hN : C.N = 18 := hN
 simp only [Z, D]
 refine ab fun K1 hK1 => ?_
 refine ai hP hN rfl ?_
 (refine ad rfl fun K0 V => ?_; simp only [zE, op1, ev, lkp, ah, ag, ev, reduceCtorEq, E, D, J, U, O, S, Try.td4]; refine V _ ?_; clear V K0; simp only [put, app, aa, af, zE, zS, D])
 refine aj ?_
 refine hK1 _ ?_; clear hK1; refine ae [0, 1, 4] ?_; simp only [Y, lkp, zE, reduceCtorEq, E, Z, D]
 refine ab fun K2 hK2 => ?_
 refine ai hP hN rfl ?_
 iterate 5 (refine ad rfl fun K0 V => ?_; simp only [zE, op1, ev, lkp, ah, ag, aH, bu, bb, aY, aZ, br, Nat.div_one, aM, b0, Ty.size, aL, dite_true, aE, aC, aD, ar, aB, aN, reduceCtorEq, E, D, J, U, O, S, Try.el26, Try.td26, Try.td3, Try.td4]; (repeat refine And.intro (by first | omega | assumption | exact rfl) ?_); (first | refine V _ ?_ | refine Or.inl (V _ ?_)); clear V K0; simp only [put, app, aa, af, zE, zS, D])
 (refine ad rfl fun K0 V => ?_; simp only [zE, op1, ev, lkp, ah, ag, ev, reduceCtorEq, E, D, J, U, O, S, Try.td4]; refine V _ ?_; clear V K0; simp only [put, app, aa, af, zE, zS, D])
 refine' aU (want := true) 6 rfl (m := 10) (by simp only [Y, lkp, zE, reduceCtorEq, E, Z, D]; exact rfl) (by kernel_rfl) rfl rfl rfl rfl rfl (fun hg3 => ?a3) ?b3 ?c3
 case a3 =>
  have hq3 := hg3; (try simp only [zB, reduceCtorEq] at hg3); simp only [List.take_succ_cons, List.take_zero, List.cons_append, List.nil_append]
  (refine aA rfl fun K0 V => ?_; simp only [zE, op1, ev, lkp, ah, ag, ev, reduceCtorEq, E, D, J, U, O, S, Try.el26, Try.td26]; refine V _ ?_; clear V K0; simp only [put, app, aa, af, zE, zS, D])
  (refine aA rfl fun K0 V => ?_; simp only [zE, op1, ev, lkp, ah, ag, ev, reduceCtorEq, E, D, J, U, O, S, Try.el26, Try.td26]; refine V _ ?_; clear V K0; simp only [put, app, aa, af, zE, zS, D])
  refine aA rfl fun K0 V => ?_
  refine aW (h := aG (sQ a b)) rfl rfl (by first | exact rfl | (simp only [ev, Y, lkp, zE, reduceCtorEq, E, Z, D]; exact rfl)) (by simp only [zE, zG, op1, ev, lkp, ah, ag, au, acs, ba, mv1, mvC, Ty.dflt, reduceCtorEq, E, D, J, U, O, S]) ?_
  refine V _ ?_; clear V K0; simp only [put, app, aa, af, zE, zS, D]
  (refine aA rfl fun K0 V => ?_; simp only [zE, op1, ev, lkp, ah, ag, ev, reduceCtorEq, E, D, J, U, O, S, Try.el26, Try.td26]; refine V _ ?_; clear V K0; simp only [put, app, aa, af, zE, zS, D])
  (refine aA rfl fun K0 V => ?_; simp only [zE, op1, ev, lkp, ah, ag, aH, bu, bb, aY, aZ, br, Nat.div_one, aM, b0, Ty.size, aL, dite_true, reduceCtorEq, E, D, J, U, O, S, Try.el26, Try.td26, Try.td3]; (repeat refine And.intro (by first | omega | assumption | exact rfl) ?_); (first | refine V _ ?_ | refine Or.inl (V _ ?_)); clear V K0; simp only [put, app, aa, af, zE, zS, D])
  (refine aA rfl fun K0 V => ?_; simp only [zE, op1, ev, lkp, ah, ag, aE, aC, aD, ar, aB, aN, reduceCtorEq, E, D, J, U, O, S, Try.td3, Try.td4]; (repeat refine And.intro (by first | omega | assumption | exact rfl) ?_); refine V _ ?_; clear V K0; simp only [put, app, aa, af, zE, zS, D])
  (refine ad rfl fun K0 V => ?_; simp only [zE, op1, ev, lkp, ah, ag, bm, reduceCtorEq, E, D, J, U, O, S, Try.td4]; refine V _ ?_; clear V K0; simp only [put, app, aa, af, zE, zS, D])
  refine aj ?_
  refine ⟨by simp only [Y, lkp, zE, reduceCtorEq, E, Z, D]; exact rfl, rfl, ?_, rfl⟩; (repeat refine aV rfl ?_); exact bt (by exact rfl) hq3
 case b3 => exact bq (by first | rfl | (simp [bS]; done) | decide)
 simp only [bg, aX]
 (refine ad rfl fun K0 V => ?_; simp only [zE, op1, ev, lkp, ah, ag, ev, reduceCtorEq, E, D, J, U, O, S, Try.td4]; refine V _ ?_; clear V K0; simp only [put, app, aa, af, zE, zS, D])
 refine aj ?_
 refine hK2 _ ?_; clear hK2; refine ae [0, 1, 4] ?_; simp only [Y, lkp, zE, reduceCtorEq, E, Z, D]
 refine aI ?_
 refine ⟨by first | exact .inl rfl | exact .inr rfl, _, rfl, ?_⟩; simp only [fzV, fz1, fzC, List.map_cons, List.map_nil, Y, lkp, zE, reduceCtorEq, E, Z, D]
 refine VLE.of_eq ?_
 refine congrArg (fun b => AV.one (AC.bool b)) ?_
 exact pA a b
end Go.Proofs.Ytdkgcbhbpdbmnaa
namespace Go.Proofs.Ytdkgcbhbpdbmnaa
open Go Go.AV
open Nat renaming reduceEqDiff → E, reduceAdd → D, reduceLeDiff → J, reduceLT → U, reduceMul → O, reduceSub → S
open List renaming set_cons_zero → aq, set_cons_succ → am
set_option maxRecDepth 100000 in
theorem ik (a b : List (List Int)) : bJ Try.prog 40 [.one (.list (.list (.int .i64)) a), .one (.list (.list (.int .i64)) b)] (.one (.bool (decide (a = b)))) := by
 refine aS Try.func40 rfl (by kernel_rfl) (Nat.le_of_ble_eq_true rfl) rfl fun C hP hN hB => ?_
 replace hN : C.N = 27 := hN
 simp only [Z, D]
 refine dV 0 rfl fun hf0 => ?_; simp only [lkp, if_true, if_false, reduceCtorEq, E, eq_self, Nat.one_ne_zero, Nat.zero_ne_one, gK, gd, fU, Fit, and_true, implies_true, true_and] at hf0
 refine ab fun K1 hK1 => ?_
 refine ai hP hN rfl ?_
 (refine ad rfl fun K0 V => ?_; simp only [zE, op1, ev, lkp, ah, ag, ev, reduceCtorEq, E, D, J, U, O, S, Try.td4]; refine V _ ?_; clear V K0; simp only [put, app, aa, af, zE, zS, D])
 refine aj ?_
 refine hK1 _ ?_; clear hK1; refine ae [0, 1, 4] ?_; simp only [Y, lkp, zE, reduceCtorEq, E, Z, D]
 refine ab fun K2 hK2 => ?_
 refine ab fun K3 hK3 => ?_
 refine ai hP hN rfl ?_
 iterate 5 (refine ad rfl fun K0 V => ?_; simp only [zE, op1, ev, lkp, ah, ag, aH, bu, bb, aY, aZ, br, Nat.div_one, aM, b0, Ty.size, aL, dite_true, aE, aC, aD, ar, aB, aN, reduceCtorEq, E, D, J, U, O, S, Try.el22, Try.td22, Try.td3, Try.td4]; (repeat refine And.intro (by first | omega | assumption | exact rfl) ?_); (first | refine V _ ?_ | refine Or.inl (V _ ?_)); clear V K0; simp only [put, app, aa, af, zE, zS, D])
 refine aj ?_
 refine hK3 _ ?_; clear hK3; refine ae [0, 1, 4, 10] ?_; simp only [Y, lkp, zE, reduceCtorEq, E, Z, D]
 refine aF (by simp only [ev, Y, lkp, zE, reduceCtorEq, E, Z, D]; exact rfl) (fun hc4 => ?_) (fun hc4 => ?_)
 ·(try simp only [zB, reduceCtorEq] at hc4)
  have hle : ¬ a.length = b.length := by omega
  refine ab fun K5 hK5 => ?_
  refine ai hP hN rfl ?_
  (refine ad rfl fun K0 V => ?_; simp only [zE, op1, ev, lkp, ah, ag, ev, reduceCtorEq, E, D, J, U, O, S, Try.td4]; refine V _ ?_; clear V K0; simp only [put, app, aa, af, zE, zS, D])
  refine aj ?_
  refine hK5 _ ?_; clear hK5; refine ae [0, 1, 4, 10] ?_; simp only [Y, lkp, zE, reduceCtorEq, E, Z, D]
  refine aI ?_
  refine ⟨by first | exact .inl rfl | exact .inr rfl, _, rfl, ?_⟩; simp only [fzV, fz1, fzC, List.map_cons, List.map_nil, Y, lkp, zE, reduceCtorEq, E, Z, D]
  refine VLE.of_eq ?_
  refine congrArg (fun b => AV.one (AC.bool b)) ?_
  symm
  first
  | exact decide_eq_false fun e => hle (by rw [e])
  | exact decide_eq_false fun e => hne (by rw [e])
  | exact decide_eq_true (kn hle fun q hq2 => hq q (by omega))
 ·(try simp only [zB, reduceCtorEq] at hc4)
  have hle : a.length = b.length := by omega
  refine aK ?_
  refine hK2 _ ?_; clear hK2; refine ae [0, 1, 4, 10] ?_; simp only [Y, lkp, zE, reduceCtorEq, E, Z, D]
  refine ab fun K6 hK6 => ?_
  refine ab fun K7 hK7 => ?_
  refine ai hP hN rfl ?_
  (refine ad rfl fun K0 V => ?_; simp only [zE, op1, ev, lkp, ah, ag, ev, reduceCtorEq, E, D, J, U, O, S, Try.td3]; refine V _ ?_; clear V K0; simp only [put, app, aa, af, zE, zS, D])
  refine aj ?_
  refine hK7 _ ?_; clear hK7; refine ae [0, 1, 4, 5, 10] ?_; simp only [Y, lkp, zE, reduceCtorEq, E, Z, D]
  refine aP ?_
  refine bG (fun n8 s8 => ∃ (k : Nat), (k ≤ a.length) ∧ (∀ q, q < k → a.getD q [] = b.getD q []) ∧ n8 = a.length - k ∧ s8 = { env := [(0, .one (.list (.list (.int .i64)) a)), (1, .one (.list (.list (.int .i64)) b)), (4, .one (.bool false)), (5, .one (.int .i64 (k : Int)))], L := [] }) ?_ ?_
  ·exact ⟨_, _, aO [0, 1, 4, 5], 0, Nat.zero_le _, fun q hq => by omega, rfl, rfl⟩
  ·rintro n8 s8 ⟨k, hk, hq, rfl, rfl⟩
   refine ab fun K9 hK9 => ?_
   refine ab fun K10 hK10 => ?_
   refine ai hP hN rfl ?_
   iterate 4 (refine ad rfl fun K0 V => ?_; simp only [zE, op1, ev, lkp, ah, ag, aH, bu, bb, aY, aZ, br, Nat.div_one, aM, b0, Ty.size, aL, dite_true, aE, aC, aD, ar, aB, aN, reduceCtorEq, E, D, J, U, O, S, Try.el22, Try.td22, Try.td3, Try.td4]; (repeat refine And.intro (by first | omega | assumption | exact rfl) ?_); (first | refine V _ ?_ | refine Or.inl (V _ ?_)); clear V K0; simp only [put, app, aa, af, zE, zS, D])
   refine aj ?_
   refine hK10 _ ?_; clear hK10; refine ae [0, 1, 4, 5, 14] ?_; simp only [Y, lkp, zE, reduceCtorEq, E, Z, D]
   refine aF (by simp only [ev, Y, lkp, zE, reduceCtorEq, E, Z, D]; exact rfl) (fun hc11 => ?_) (fun hc11 => ?_)
   ·(try simp only [zB, reduceCtorEq] at hc11)
    refine aK ?_
    refine hK9 _ ?_; clear hK9; refine ae [0, 1, 4, 5, 14] ?_; simp only [Y, lkp, zE, reduceCtorEq, E, Z, D]
    refine ab fun K12 hK12 => ?_
    refine aP ?_
    refine ab fun K13 hK13 => ?_
    refine bY hP hN Try.mixed rfl ?_
    iterate 8 (refine ad rfl fun K0 V => ?_; simp only [zE, op1, ev, lkp, ah, ag, aJ, zG, Ty.dflt, Ty.size, Nat.mul_one, ne_eq, not_false_eq_true, Int.natCast_one, Int.mul_one, az, ax, ay, acs, ao, reduceCtorEq, E, D, J, U, O, S, Try.el22, Try.el26, Try.td22, Try.td26, Try.td3]; (repeat refine And.intro (by first | omega | assumption | exact rfl) ?_); refine V _ ?_; clear V K0; simp only [put, app, aa, af, zE, zS, D])
    refine ad rfl fun K0 V => ?_
    refine aW (h := aG (oH (a.getD k []) (b.getD k []))) rfl rfl (by first | exact rfl | (simp only [ev, Y, lkp, zE, reduceCtorEq, E, Z, D]; exact rfl)) (by simp only [zE, zG, op1, ev, lkp, ah, ag, au, acs, ba, mv1, mvC, Ty.dflt, reduceCtorEq, E, D, J, U, O, S]) ?_
    refine V _ ?_; clear V K0; simp only [put, app, aa, af, zE, zS, D]
    (refine ad rfl fun K0 V => ?_; simp only [zE, op1, ev, lkp, ah, ag, gG, reduceCtorEq, E, D, J, U, O, S, Try.td4]; (repeat refine And.intro (by first | omega | assumption | exact rfl) ?_); refine V _ ?_; clear V K0; simp only [put, app, aa, af, zE, zS, D])
    refine aj ?_
    refine ⟨by kernel_rfl, ?_⟩
    refine hK13 _ ?_; clear hK13; refine ae [0, 1, 4, 5, 14, 26] ?_; simp only [Y, lkp, zE, reduceCtorEq, E, Z, D]
    refine aF (by simp only [ev, Y, lkp, zE, reduceCtorEq, E, Z, D]; exact rfl) (fun hc14 => ?_) (fun hc14 => ?_)
    ·(try simp only [zB, reduceCtorEq] at hc14)
     have hne : a.getD k [] ≠ b.getD k [] := by simpa using hc14
     refine ab fun K15 hK15 => ?_
     refine ai hP hN rfl ?_
     (refine ad rfl fun K0 V => ?_; simp only [zE, op1, ev, lkp, ah, ag, ev, reduceCtorEq, E, D, J, U, O, S, Try.td4]; refine V _ ?_; clear V K0; simp only [put, app, aa, af, zE, zS, D])
     refine aj ?_
     refine hK15 _ ?_; clear hK15; refine ae [0, 1, 4, 5, 14, 26] ?_; simp only [Y, lkp, zE, reduceCtorEq, E, Z, D]
     refine aI ?_
     refine ⟨by first | exact .inl rfl | exact .inr rfl, _, rfl, ?_⟩; simp only [fzV, fz1, fzC, List.map_cons, List.map_nil, Y, lkp, zE, reduceCtorEq, E, Z, D]
     refine VLE.of_eq ?_
     refine congrArg (fun b => AV.one (AC.bool b)) ?_
     symm
     first
     | exact decide_eq_false fun e => hle (by rw [e])
     | exact decide_eq_false fun e => hne (by rw [e])
     | exact decide_eq_true (kn hle fun q hq2 => hq q (by omega))
    ·(try simp only [zB, reduceCtorEq] at hc14)
     have heq : a.getD k [] = b.getD k [] := by simpa using hc14
     refine aK ?_
     refine hK12 _ ?_; clear hK12; refine ae [0, 1, 4, 5, 14, 26] ?_; simp only [Y, lkp, zE, reduceCtorEq, E, Z, D]
     refine ai hP hN rfl ?_
     iterate 3 (refine ad rfl fun K0 V => ?_; simp only [zE, op1, ev, lkp, ah, ag, aE, aC, aD, ar, aB, aN, reduceCtorEq, E, D, J, U, O, S, Try.td3]; (repeat refine And.intro (by first | omega | assumption | exact rfl) ?_); refine V _ ?_; clear V K0; simp only [put, app, aa, af, zE, zS, D])
     refine aj ?_
     refine ⟨_, _, ?_, aO [0, 1, 4, 5], k + 1, by omega, fun q hq2 => ?_, rfl, rfl⟩
     · omega
     · by_cases e : q = k
       · rw [e]; exact heq
       · exact hq q (by omega)
   ·(try simp only [zB, reduceCtorEq] at hc11)
    refine bD ?_
    refine hK6 _ ?_; clear hK6; refine ae [0, 1, 4, 5, 14] ?_; simp only [Y, lkp, zE, reduceCtorEq, E, Z, D]
    refine ab fun K16 hK16 => ?_
    refine ai hP hN rfl ?_
    (refine ad rfl fun K0 V => ?_; simp only [zE, op1, ev, lkp, ah, ag, ev, reduceCtorEq, E, D, J, U, O, S, Try.td4]; refine V _ ?_; clear V K0; simp only [put, app, aa, af, zE, zS, D])
    refine aj ?_
    refine hK16 _ ?_; clear hK16; refine ae [0, 1, 4, 5, 14] ?_; simp only [Y, lkp, zE, reduceCtorEq, E, Z, D]
    refine aI ?_
    refine ⟨by first | exact .inl rfl | exact .inr rfl, _, rfl, ?_⟩; simp only [fzV, fz1, fzC, List.map_cons, List.map_nil, Y, lkp, zE, reduceCtorEq, E, Z, D]
    refine VLE.of_eq ?_
    refine congrArg (fun b => AV.one (AC.bool b)) ?_
    symm
    first
    | exact decide_eq_false fun e => hle (by rw [e])
    | exact decide_eq_false fun e => hne (by rw [e])
    | exact decide_eq_true (kn hle fun q hq2 => hq q (by omega))
end Go.Proofs.Ytdkgcbhbpdbmnaa
namespace Go.Proofs.Ytdkgcbhbpdbmnaa
open Go Go.AV
open Nat renaming reduceEqDiff → E, reduceAdd → D, reduceLeDiff → J, reduceLT → U, reduceMul → O, reduceSub → S
open List renaming set_cons_zero → aq, set_cons_succ → am
set_option maxRecDepth 100000 in
theorem mW (a b : Dfa) (ha : a.acc.length ≤ 1000) : bJ Try.prog 20 [a.av, b.av] (.one (.bool (gW a b))) := by
 refine aS Try.func20 rfl (by kernel_rfl) (Nat.le_of_ble_eq_true rfl) rfl fun C hP hN hB => ?_
 replace hN : C.N = 53 := hN
 simp only [Z, D]
 refine ab fun K1 hK1 => ?_
 refine ai hP hN rfl ?_
 iterate 3 (refine ad rfl fun K0 V => ?_; simp only [zE, op1, ev, lkp, ah, ag, c0, au, reduceCtorEq, E, D, J, U, O, S, Try.st25, Try.td25, Try.td4, Dfa.av]; (repeat refine And.intro (by first | omega | assumption | exact rfl) ?_); refine V _ ?_; clear V K0; simp only [put, app, aa, af, zE, zS, D])
 refine aj ?_
 refine hK1 _ ?_; clear hK1; refine ae [0, 1, 2, 3, 4] ?_; simp only [Y, lkp, zE, reduceCtorEq, E, Z, D]
 refine ab fun K2 hK2 => ?_
 refine ab fun K3 hK3 => ?_
 refine ai hP hN rfl ?_
 iterate 5 (refine ad rfl fun K0 V => ?_; simp only [zE, op1, ev, lkp, ah, ag, aw, az, Nat.mul_one, ax, ay, acs, Ty.dflt, zG, ao, aE, aC, aD, ar, aB, aN, reduceCtorEq, E, D, J, U, O, S, Try.st25, Try.td25, Try.td3, Try.td4, Dfa.av]; (repeat refine And.intro (by first | omega | assumption | exact rfl) ?_); refine V _ ?_; clear V K0; simp only [put, app, aa, af, zE, zS, D])
 (refine ad rfl fun K0 V => ?_; simp only [zE, op1, ev, lkp, ah, ag, ev, reduceCtorEq, E, D, J, U, O, S, Try.td4, Dfa.av]; refine V _ ?_; clear V K0; simp only [put, app, aa, af, zE, zS, D])
 refine' aU (want := false) 5 rfl (m := 11) (by simp only [Y, lkp, zE, reduceCtorEq, E, Z, D]; exact rfl) (by kernel_rfl) rfl rfl rfl rfl rfl (fun hg4 => ?a4) ?b4 ?c4
 case a4 =>
  have hq4 := hg4; (try simp only [zB, reduceCtorEq] at hg4); simp only [List.take_succ_cons, List.take_zero, List.cons_append, List.nil_append]
  (refine aA rfl fun K0 V => ?_; simp only [zE, op1, ev, lkp, ah, ag, aw, reduceCtorEq, E, D, J, U, O, S, Try.st25, Try.td1, Try.td25, Dfa.av]; (repeat refine And.intro (by first | omega | assumption | exact rfl) ?_); refine V _ ?_; clear V K0; simp only [put, app, aa, af, zE, zS, D])
  (refine aA rfl fun K0 V => ?_; simp only [zE, op1, ev, lkp, ah, ag, az, Nat.mul_one, ax, ay, acs, Ty.dflt, zG, ao, reduceCtorEq, E, D, J, U, O, S, Try.td3, Dfa.av]; (repeat refine And.intro (by first | omega | assumption | exact rfl) ?_); refine V _ ?_; clear V K0; simp only [put, app, aa, af, zE, zS, D])
  (refine aA rfl fun K0 V => ?_; simp only [zE, op1, ev, lkp, ah, ag, aw, reduceCtorEq, E, D, J, U, O, S, Try.st25, Try.td1, Try.td25, Dfa.av]; (repeat refine And.intro (by first | omega | assumption | exact rfl) ?_); refine V _ ?_; clear V K0; simp only [put, app, aa, af, zE, zS, D])
  (refine aA rfl fun K0 V => ?_; simp only [zE, op1, ev, lkp, ah, ag, az, Nat.mul_one, ax, ay, acs, Ty.dflt, zG, ao, reduceCtorEq, E, D, J, U, O, S, Try.td3, Dfa.av]; (repeat refine And.intro (by first | omega | assumption | exact rfl) ?_); refine V _ ?_; clear V K0; simp only [put, app, aa, af, zE, zS, D])
  (refine aA rfl fun K0 V => ?_; simp only [zE, op1, ev, lkp, ah, ag, aE, aC, aD, ar, aB, aN, reduceCtorEq, E, D, J, U, O, S, Try.td3, Try.td4, Dfa.av]; (repeat refine And.intro (by first | omega | assumption | exact rfl) ?_); refine V _ ?_; clear V K0; simp only [put, app, aa, af, zE, zS, D])
  (refine ad rfl fun K0 V => ?_; simp only [zE, op1, ev, lkp, ah, ag, bm, reduceCtorEq, E, D, J, U, O, S, Try.td4, Dfa.av]; refine V _ ?_; clear V K0; simp only [put, app, aa, af, zE, zS, D])
  refine aj ?_
  refine ⟨by simp only [Y, lkp, zE, reduceCtorEq, E, Z, D]; exact rfl, rfl, ?_, rfl⟩; (repeat refine aV rfl ?_); exact bt (by exact rfl) hq4
 case b4 => exact bq (by first | rfl | (simp [bS]; done) | decide)
 simp only [bg, aX]
 (refine ad rfl fun K0 V => ?_; simp only [zE, op1, ev, lkp, ah, ag, ev, reduceCtorEq, E, D, J, U, O, S, Try.td4, Dfa.av]; refine V _ ?_; clear V K0; simp only [put, app, aa, af, zE, zS, D])
 refine' aU (want := false) 6 rfl (m := 18) (by simp only [Y, lkp, zE, reduceCtorEq, E, Z, D]; exact rfl) (by kernel_rfl) rfl rfl rfl rfl rfl (fun hg5 => ?a5) ?b5 ?c5
 case a5 =>
  have hq5 := hg5; (try simp only [zB, reduceCtorEq] at hg5); simp only [List.take_succ_cons, List.take_zero, List.cons_append, List.nil_append]
  (refine aA rfl fun K0 V => ?_; simp only [zE, op1, ev, lkp, ah, ag, aw, reduceCtorEq, E, D, J, U, O, S, Try.st25, Try.td2, Try.td25, Dfa.av]; (repeat refine And.intro (by first | omega | assumption | exact rfl) ?_); refine V _ ?_; clear V K0; simp only [put, app, aa, af, zE, zS, D])
  (refine aA rfl fun K0 V => ?_; simp only [zE, op1, ev, lkp, ah, ag, az, Nat.mul_one, ax, ay, acs, Ty.dflt, zG, ao, reduceCtorEq, E, D, J, U, O, S, Try.el22, Try.td22, Dfa.av]; (repeat refine And.intro (by first | omega | assumption | exact rfl) ?_); refine V _ ?_; clear V K0; simp only [put, app, aa, af, zE, zS, D])
  (refine aA rfl fun K0 V => ?_; simp only [zE, op1, ev, lkp, ah, ag, aw, reduceCtorEq, E, D, J, U, O, S, Try.st25, Try.td2, Try.td25, Dfa.av]; (repeat refine And.intro (by first | omega | assumption | exact rfl) ?_); refine V _ ?_; clear V K0; simp only [put, app, aa, af, zE, zS, D])
  (refine aA rfl fun K0 V => ?_; simp only [zE, op1, ev, lkp, ah, ag, az, Nat.mul_one, ax, ay, acs, Ty.dflt, zG, ao, reduceCtorEq, E, D, J, U, O, S, Try.el22, Try.td22, Dfa.av]; (repeat refine And.intro (by first | omega | assumption | exact rfl) ?_); refine V _ ?_; clear V K0; simp only [put, app, aa, af, zE, zS, D])
  refine aA rfl fun K0 V => ?_
  refine aW (h := aG (ik a.nx b.nx)) rfl rfl (by first | exact rfl | (simp only [ev, Y, lkp, zE, reduceCtorEq, E, Z, D]; exact rfl)) (by simp only [zE, zG, op1, ev, lkp, ah, ag, au, acs, ba, mv1, mvC, Ty.dflt, reduceCtorEq, E, D, J, U, O, S, Dfa.av]) ?_
  refine V _ ?_; clear V K0; simp only [put, app, aa, af, zE, zS, D]
  (refine aA rfl fun K0 V => ?_; simp only [zE, op1, ev, lkp, ah, ag, gG, reduceCtorEq, E, D, J, U, O, S, Try.td4, Dfa.av]; (repeat refine And.intro (by first | omega | assumption | exact rfl) ?_); refine V _ ?_; clear V K0; simp only [put, app, aa, af, zE, zS, D])
  (refine ad rfl fun K0 V => ?_; simp only [zE, op1, ev, lkp, ah, ag, bm, reduceCtorEq, E, D, J, U, O, S, Try.td4, Dfa.av]; refine V _ ?_; clear V K0; simp only [put, app, aa, af, zE, zS, D])
  refine aj ?_
  refine ⟨by simp only [Y, lkp, zE, reduceCtorEq, E, Z, D]; exact rfl, rfl, ?_, rfl⟩; (repeat refine aV rfl ?_); exact bt (by exact rfl) hq5
 case b5 => exact bq (by first | rfl | (simp [bS]; done) | decide)
 simp only [bg, aX]
 (refine ad rfl fun K0 V => ?_; simp only [zE, op1, ev, lkp, ah, ag, ev, reduceCtorEq, E, D, J, U, O, S, Try.td4, Dfa.av]; refine V _ ?_; clear V K0; simp only [put, app, aa, af, zE, zS, D])
 refine' aU (want := false) 7 rfl (m := 26) (by simp only [Y, lkp, zE, reduceCtorEq, E, Z, D]; exact rfl) (by kernel_rfl) rfl rfl rfl rfl rfl (fun hg6 => ?a6) ?b6 ?c6
 case a6 =>
  have hq6 := hg6; (try simp only [zB, reduceCtorEq] at hg6); simp only [List.take_succ_cons, List.take_zero, List.cons_append, List.nil_append]
  (refine aA rfl fun K0 V => ?_; simp only [zE, op1, ev, lkp, ah, ag, aw, reduceCtorEq, E, D, J, U, O, S, Try.st25, Try.td25, Try.td3, Dfa.av]; (repeat refine And.intro (by first | omega | assumption | exact rfl) ?_); refine V _ ?_; clear V K0; simp only [put, app, aa, af, zE, zS, D])
  (refine aA rfl fun K0 V => ?_; simp only [zE, op1, ev, lkp, ah, ag, az, Nat.mul_one, ax, ay, acs, Ty.dflt, zG, ao, reduceCtorEq, E, D, J, U, O, S, Try.el23, Try.td23, Dfa.av]; (repeat refine And.intro (by first | omega | assumption | exact rfl) ?_); refine V _ ?_; clear V K0; simp only [put, app, aa, af, zE, zS, D])
  (refine aA rfl fun K0 V => ?_; simp only [zE, op1, ev, lkp, ah, ag, aH, bu, bb, aY, aZ, br, Nat.div_one, aM, b0, Ty.size, aL, dite_true, reduceCtorEq, E, D, J, U, O, S, Try.el23, Try.td23, Try.td3, Dfa.av]; (repeat refine And.intro (by first | omega | assumption | exact rfl) ?_); (first | refine V _ ?_ | refine Or.inl (V _ ?_)); clear V K0; simp only [put, app, aa, af, zE, zS, D])
  (refine aA rfl fun K0 V => ?_; simp only [zE, op1, ev, lkp, ah, ag, aw, reduceCtorEq, E, D, J, U, O, S, Try.st25, Try.td25, Try.td3, Dfa.av]; (repeat refine And.intro (by first | omega | assumption | exact rfl) ?_); refine V _ ?_; clear V K0; simp only [put, app, aa, af, zE, zS, D])
  (refine aA rfl fun K0 V => ?_; simp only [zE, op1, ev, lkp, ah, ag, az, Nat.mul_one, ax, ay, acs, Ty.dflt, zG, ao, reduceCtorEq, E, D, J, U, O, S, Try.el23, Try.td23, Dfa.av]; (repeat refine And.intro (by first | omega | assumption | exact rfl) ?_); refine V _ ?_; clear V K0; simp only [put, app, aa, af, zE, zS, D])
  (refine aA rfl fun K0 V => ?_; simp only [zE, op1, ev, lkp, ah, ag, aH, bu, bb, aY, aZ, br, Nat.div_one, aM, b0, Ty.size, aL, dite_true, reduceCtorEq, E, D, J, U, O, S, Try.el23, Try.td23, Try.td3, Dfa.av]; (repeat refine And.intro (by first | omega | assumption | exact rfl) ?_); (first | refine V _ ?_ | refine Or.inl (V _ ?_)); clear V K0; simp only [put, app, aa, af, zE, zS, D])
  (refine aA rfl fun K0 V => ?_; simp only [zE, op1, ev, lkp, ah, ag, aE, aC, aD, ar, aB, aN, reduceCtorEq, E, D, J, U, O, S, Try.td3, Try.td4, Dfa.av]; (repeat refine And.intro (by first | omega | assumption | exact rfl) ?_); refine V _ ?_; clear V K0; simp only [put, app, aa, af, zE, zS, D])
  (refine ad rfl fun K0 V => ?_; simp only [zE, op1, ev, lkp, ah, ag, bm, reduceCtorEq, E, D, J, U, O, S, Try.td4, Dfa.av]; refine V _ ?_; clear V K0; simp only [put, app, aa, af, zE, zS, D])
  refine aj ?_
  refine ⟨by simp only [Y, lkp, zE, reduceCtorEq, E, Z, D]; exact rfl, rfl, ?_, rfl⟩; (repeat refine aV rfl ?_); exact bt (by exact rfl) hq6
 case b6 => exact bq (by first | rfl | (simp [bS]; done) | decide)
 simp only [bg, aX]
 refine aj ?_
 refine hK3 _ ?_; clear hK3; refine ae [0, 1, 2, 3, 4, 34] ?_; simp only [Y, lkp, zE, reduceCtorEq, E, Z, D]
 refine aF (by simp only [ev, Y, lkp, zE, reduceCtorEq, E, Z, D]; exact rfl) (fun hc7 => ?_) (fun hc7 => ?_)
 ·(try simp only [zB, reduceCtorEq] at hc7)
  have hno : ¬ (a.inp = b.inp ∧ a.st = b.st ∧ a.nx = b.nx ∧ a.acc.length = b.acc.length) := by have h9 := hc7; rintro ⟨q1, q2, q3, q4⟩; simp [q1, q2, q3, q4] at h9
  refine ab fun K8 hK8 => ?_
  refine ai hP hN rfl ?_
  (refine ad rfl fun K0 V => ?_; simp only [zE, op1, ev, lkp, ah, ag, ev, reduceCtorEq, E, D, J, U, O, S, Try.td4, Dfa.av]; refine V _ ?_; clear V K0; simp only [put, app, aa, af, zE, zS, D])
  refine aj ?_
  refine hK8 _ ?_; clear hK8; refine ae [0, 1, 2, 3, 4, 34] ?_; simp only [Y, lkp, zE, reduceCtorEq, E, Z, D]
  refine aI ?_
  refine ⟨by first | exact .inl rfl | exact .inr rfl, _, rfl, ?_⟩; simp only [fzV, fz1, fzC, List.map_cons, List.map_nil, Y, lkp, zE, reduceCtorEq, E, Z, D, Dfa.av]
  refine VLE.of_eq ?_
  refine congrArg (fun b => AV.one (AC.bool b)) ?_
  symm
  first
  | exact ew fun e => hno ⟨e.1, e.2.1, e.2.2.1, by rw [e.2.2.2]⟩
  | exact ew fun e => hne (by rw [e.2.2.2])
  | exact gY hys.1 hys.2.1 hys.2.2.1 (gX hys.2.2.2 fun q hq2 => hq q (by omega))
 ·(try simp only [zB, reduceCtorEq] at hc7)
  have hys : a.inp = b.inp ∧ a.st = b.st ∧ a.nx = b.nx ∧ a.acc.length = b.acc.length := by have h9 := hc7; exact ⟨h9.1.1.1, h9.1.1.2, h9.1.2, by have := h9.2; omega⟩
  refine aK ?_
  refine hK2 _ ?_; clear hK2; refine ae [0, 1, 2, 3, 4, 34] ?_; simp only [Y, lkp, zE, reduceCtorEq, E, Z, D]
  refine ab fun K9 hK9 => ?_
  refine ab fun K10 hK10 => ?_
  refine ai hP hN rfl ?_
  (refine ad rfl fun K0 V => ?_; simp only [zE, op1, ev, lkp, ah, ag, ev, reduceCtorEq, E, D, J, U, O, S, Try.td3, Dfa.av]; refine V _ ?_; clear V K0; simp only [put, app, aa, af, zE, zS, D])
  refine aj ?_
  refine hK10 _ ?_; clear hK10; refine ae [0, 1, 2, 3, 4, 5, 34] ?_; simp only [Y, lkp, zE, reduceCtorEq, E, Z, D]
  refine aP ?_
  refine bG (fun n11 s11 => ∃ (k : Nat), (k ≤ a.acc.length) ∧ (∀ q, q < k → a.acc.getD q false = b.acc.getD q false) ∧ n11 = a.acc.length - k ∧ s11 = { env := [(2, .one (.ptr 0 0 0 0)), (3, .one (.ptr 1 0 0 0)), (4, .one (.bool false)), (5, .one (.int .i64 (k : Int)))], L := [.vars 25 [.int .i64 a.inp, .int .i64 a.st, .list (.list (.int .i64)) a.nx, .list .bool a.acc], .vars 25 [.int .i64 b.inp, .int .i64 b.st, .list (.list (.int .i64)) b.nx, .list .bool b.acc]] }) ?_ ?_
  ·exact ⟨_, _, aO [2, 3, 4, 5], 0, Nat.zero_le _, fun q hq => by omega, rfl, rfl⟩
  ·rintro n11 s11 ⟨k, hk, hq, rfl, rfl⟩
   refine ab fun K12 hK12 => ?_
   refine ab fun K13 hK13 => ?_
   refine ai hP hN rfl ?_
   iterate 5 (refine ad rfl fun K0 V => ?_; simp only [zE, op1, ev, lkp, ah, ag, aw, az, Nat.mul_one, ax, ay, acs, Ty.dflt, zG, ao, aH, bu, bb, aY, aZ, br, Nat.div_one, aM, b0, Ty.size, aL, dite_true, aE, aC, aD, ar, aB, aN, reduceCtorEq, E, D, J, U, O, S, Try.el23, Try.st25, Try.td23, Try.td25, Try.td3, Try.td4, Dfa.av]; (repeat refine And.intro (by first | omega | assumption | exact rfl) ?_); (first | refine V _ ?_ | refine Or.inl (V _ ?_)); clear V K0; simp only [put, app, aa, af, zE, zS, D])
   refine aj ?_
   refine hK13 _ ?_; clear hK13; refine ae [2, 3, 4, 5, 39] ?_; simp only [Y, lkp, zE, reduceCtorEq, E, Z, D]
   refine aF (by simp only [ev, Y, lkp, zE, reduceCtorEq, E, Z, D]; exact rfl) (fun hc14 => ?_) (fun hc14 => ?_)
   ·(try simp only [zB, reduceCtorEq] at hc14)
    refine aK ?_
    refine hK12 _ ?_; clear hK12; refine ae [2, 3, 4, 5, 39] ?_; simp only [Y, lkp, zE, reduceCtorEq, E, Z, D]
    refine ab fun K15 hK15 => ?_
    refine aP ?_
    refine ab fun K16 hK16 => ?_
    have hl9 := hys.2.2.2
    refine bY hP hN Try.mixed rfl ?_
    iterate 11 (refine ad rfl fun K0 V => ?_; simp only [zE, op1, ev, lkp, ah, ag, aw, az, Nat.mul_one, ax, ay, acs, Ty.dflt, zG, ao, aJ, Ty.size, ne_eq, not_false_eq_true, Int.natCast_one, Int.mul_one, aE, aC, aD, ar, aB, aN, reduceCtorEq, E, D, J, U, O, S, Try.el23, Try.st25, Try.td23, Try.td25, Try.td3, Try.td4, Dfa.av]; (repeat refine And.intro (by first | omega | assumption | exact rfl) ?_); refine V _ ?_; clear V K0; simp only [put, app, aa, af, zE, zS, D])
    refine aj ?_
    refine ⟨by kernel_rfl, ?_⟩
    refine hK16 _ ?_; clear hK16; refine ae [2, 3, 4, 5, 39, 52] ?_; simp only [Y, lkp, zE, reduceCtorEq, E, Z, D]
    refine aF (by simp only [ev, Y, lkp, zE, reduceCtorEq, E, Z, D]; exact rfl) (fun hc17 => ?_) (fun hc17 => ?_)
    ·(try simp only [zB, reduceCtorEq] at hc17)
     have hne : a.acc.getD k false ≠ b.acc.getD k false := by simpa using hc17
     refine ab fun K18 hK18 => ?_
     refine ai hP hN rfl ?_
     (refine ad rfl fun K0 V => ?_; simp only [zE, op1, ev, lkp, ah, ag, ev, reduceCtorEq, E, D, J, U, O, S, Try.td4, Dfa.av]; refine V _ ?_; clear V K0; simp only [put, app, aa, af, zE, zS, D])
     refine aj ?_
     refine hK18 _ ?_; clear hK18; refine ae [2, 3, 4, 5, 39, 52] ?_; simp only [Y, lkp, zE, reduceCtorEq, E, Z, D]
     refine aI ?_
     refine ⟨by first | exact .inl rfl | exact .inr rfl, _, rfl, ?_⟩; simp only [fzV, fz1, fzC, List.map_cons, List.map_nil, Y, lkp, zE, reduceCtorEq, E, Z, D, Dfa.av]
     refine VLE.of_eq ?_
     refine congrArg (fun b => AV.one (AC.bool b)) ?_
     symm
     first
     | exact ew fun e => hno ⟨e.1, e.2.1, e.2.2.1, by rw [e.2.2.2]⟩
     | exact ew fun e => hne (by rw [e.2.2.2])
     | exact gY hys.1 hys.2.1 hys.2.2.1 (gX hys.2.2.2 fun q hq2 => hq q (by omega))
    ·(try simp only [zB, reduceCtorEq] at hc17)
     have heq : a.acc.getD k false = b.acc.getD k false := by simpa using hc17
     refine aK ?_
     refine hK15 _ ?_; clear hK15; refine ae [2, 3, 4, 5, 39, 52] ?_; simp only [Y, lkp, zE, reduceCtorEq, E, Z, D]
     refine ai hP hN rfl ?_
     iterate 3 (refine ad rfl fun K0 V => ?_; simp only [zE, op1, ev, lkp, ah, ag, aE, aC, aD, ar, aB, aN, reduceCtorEq, E, D, J, U, O, S, Try.td3, Dfa.av]; (repeat refine And.intro (by first | omega | assumption | exact rfl) ?_); refine V _ ?_; clear V K0; simp only [put, app, aa, af, zE, zS, D])
     refine aj ?_
     refine ⟨_, _, ?_, aO [2, 3, 4, 5], k + 1, by omega, fun q hq2 => ?_, rfl, rfl⟩
     · omega
     · by_cases e : q = k
       · rw [e]; exact heq
       · exact hq q (by omega)
   ·(try simp only [zB, reduceCtorEq] at hc14)
    refine bD ?_
    refine hK9 _ ?_; clear hK9; refine ae [2, 3, 4, 5, 39] ?_; simp only [Y, lkp, zE, reduceCtorEq, E, Z, D]
    refine ab fun K19 hK19 => ?_
    refine ai hP hN rfl ?_
    (refine ad rfl fun K0 V => ?_; simp only [zE, op1, ev, lkp, ah, ag, ev, reduceCtorEq, E, D, J, U, O, S, Try.td4, Dfa.av]; refine V _ ?_; clear V K0; simp only [put, app, aa, af, zE, zS, D])
    refine aj ?_
    refine hK19 _ ?_; clear hK19; refine ae [2, 3, 4, 5, 39] ?_; simp only [Y, lkp, zE, reduceCtorEq, E, Z, D]
    refine aI ?_
    refine ⟨by first | exact .inl rfl | exact .inr rfl, _, rfl, ?_⟩; simp only [fzV, fz1, fzC, List.map_cons, List.map_nil, Y, lkp, zE, reduceCtorEq, E, Z, D, Dfa.av]
    refine VLE.of_eq ?_
    refine congrArg (fun b => AV.one (AC.bool b)) ?_
    symm
    first
    | exact ew fun e => hno ⟨e.1, e.2.1, e.2.2.1, by rw [e.2.2.2]⟩
    | exact ew fun e => hne (by rw [e.2.2.2])
    | exact gY hys.1 hys.2.1 hys.2.2.1 (gX hys.2.2.2 fun q hq2 => hq q (by omega))
end Go.Proofs.Ytdkgcbhbpdbmnaa
namespace Go.Proofs.Ytdkgcbhbpdbmnaa
open Go Go.AV
open Nat renaming reduceEqDiff → E, reduceAdd → D, reduceLeDiff → J, reduceLT → U, reduceMul → O, reduceSub → S
open List renaming set_cons_zero → aq, set_cons_succ → am
set_option maxRecDepth 100000 in
theorem sA (d : Dfa) (q : PP) (x : Nat) (hd : DOK d) (hq : inR d.nx.length 1 q) (hx : (x : Int) < d.inp) : bJ Try.prog 45 [.agg [.int .i64 q.1, .int .i64 q.2], .one (.int .i64 (x : Int)), .one (.pat (.pair (.int .i64) (.pair (.int .i64) (.pair (.list (.list (.int .i64))) (.pair (.list .bool) .unit)))) (d.inp, (d.st, (d.nx, (d.acc, ())))) 0)] (.agg [.int .i64 (ku d q x).1, .int .i64 (ku d q x).2]) := by
 have hrd := hd.rli hq.1; have hsd : ((d.nx.getD q.1.toNat []).length : Int) = d.inp := hrd; have htd := hq.1; have hud := hd.al
 refine aS Try.func45 rfl (by kernel_rfl) (Nat.le_of_ble_eq_true rfl) rfl fun C hP hN hB => ?_
 replace hN : C.N = 16 := hN
 simp only [Z, D]
 refine ab fun K1 hK1 => ?_
 refine ai hP hN rfl ?_
 iterate 2 (refine ad rfl fun K0 V => ?_; simp only [zE, op1, ev, lkp, ah, ag, c0, au, bQ, reduceCtorEq, E, D, J, U, O, S, Try.ea81, Try.sa81, Try.td81]; (repeat refine And.intro (by first | omega | assumption | exact rfl) ?_); (first | refine V _ ?_ | refine Or.inl (V _ ?_)); clear V K0; simp only [put, app, aa, af, zE, zS, D])
 refine aj ?_
 refine hK1 _ ?_; clear hK1; refine ae [0, 1, 2, 3, 5] ?_; simp only [Y, lkp, zE, reduceCtorEq, E, Z, D]
 refine ab fun K2 hK2 => ?_
 refine ai hP hN rfl ?_
 iterate 11 (refine ad rfl fun K0 V => ?_; simp only [zE, op1, ev, lkp, ah, ag, aw, az, Nat.mul_one, ax, ay, acs, Ty.dflt, zG, ao, aJ, Ty.size, ne_eq, not_false_eq_true, Int.natCast_one, Int.mul_one, bW, bh, aQ, au, bj, aL, reduceCtorEq, E, D, J, U, O, S, Try.ea81, Try.el22, Try.el26, Try.sa81, Try.st25, Try.td2, Try.td22, Try.td25, Try.td26, Try.td3, Try.td81]; (repeat refine And.intro (by first | omega | assumption | exact rfl) ?_); (first | refine V _ ?_ | refine Or.inl (V _ ?_)); clear V K0; simp only [put, app, aa, af, zE, zS, D])
 refine aj ?_
 refine hK2 _ ?_; clear hK2; refine ae [0, 1, 2, 3, 5] ?_; simp only [Y, lkp, zE, reduceCtorEq, E, Z, D]
 refine aI ?_
 refine ⟨by first | exact .inl rfl | exact .inr rfl, _, rfl, ?_⟩; simp only [fzV, fz1, fzC, List.map_cons, List.map_nil, Y, lkp, zE, reduceCtorEq, E, Z, D]
 refine VLE.of_eq ?_
 rfl
end Go.Proofs.Ytdkgcbhbpdbmnaa
namespace Go.Proofs.Ytdkgcbhbpdbmnaa
open Go Go.AV
open Nat renaming reduceEqDiff → E, reduceAdd → D, reduceLeDiff → J, reduceLT → U, reduceMul → O, reduceSub → S
open List renaming set_cons_zero → aq, set_cons_succ → am
set_option maxRecDepth 100000 in
theorem sj (d : Dfa) (q : PP) (hd : DOK d) (hq : inR d.nx.length 1 q) : bJ Try.prog 47 [.agg [.int .i64 q.1, .int .i64 q.2], .one (.pat (.pair (.int .i64) (.pair (.int .i64) (.pair (.list (.list (.int .i64))) (.pair (.list .bool) .unit)))) (d.inp, (d.st, (d.nx, (d.acc, ())))) 0)] (.one (.bool (eF d q))) := by
 have hrd := hd.rli hq.1; have hsd : ((d.nx.getD q.1.toNat []).length : Int) = d.inp := hrd; have htd := hq.1; have hud := hd.al
 refine aS Try.func47 rfl (by kernel_rfl) (Nat.le_of_ble_eq_true rfl) rfl fun C hP hN hB => ?_
 replace hN : C.N = 10 := hN
 simp only [Z, D]
 refine ab fun K1 hK1 => ?_
 refine ai hP hN rfl ?_
 iterate 2 (refine ad rfl fun K0 V => ?_; simp only [zE, op1, ev, lkp, ah, ag, c0, au, reduceCtorEq, E, D, J, U, O, S, Try.ea81, Try.sa81, Try.td4, Try.td81]; (repeat refine And.intro (by first | omega | assumption | exact rfl) ?_); refine V _ ?_; clear V K0; simp only [put, app, aa, af, zE, zS, D])
 refine aj ?_
 refine hK1 _ ?_; clear hK1; refine ae [0, 1, 2, 3] ?_; simp only [Y, lkp, zE, reduceCtorEq, E, Z, D]
 refine ab fun K2 hK2 => ?_
 refine ai hP hN rfl ?_
 iterate 7 (refine ad rfl fun K0 V => ?_; simp only [zE, op1, ev, lkp, ah, ag, aw, az, Nat.mul_one, ax, ay, acs, Ty.dflt, zG, ao, aJ, Ty.size, ne_eq, not_false_eq_true, Int.natCast_one, Int.mul_one, reduceCtorEq, E, D, J, U, O, S, Try.ea81, Try.el23, Try.sa81, Try.st25, Try.td23, Try.td25, Try.td3, Try.td4, Try.td81]; (repeat refine And.intro (by first | omega | assumption | exact rfl) ?_); refine V _ ?_; clear V K0; simp only [put, app, aa, af, zE, zS, D])
 refine aj ?_
 refine hK2 _ ?_; clear hK2; refine ae [0, 1, 2, 3] ?_; simp only [Y, lkp, zE, reduceCtorEq, E, Z, D]
 refine aI ?_
 refine ⟨by first | exact .inl rfl | exact .inr rfl, _, rfl, ?_⟩; simp only [fzV, fz1, fzC, List.map_cons, List.map_nil, Y, lkp, zE, reduceCtorEq, E, Z, D]
 refine VLE.of_eq ?_
 rfl
end Go.Proofs.Ytdkgcbhbpdbmnaa
namespace Go.Proofs.Ytdkgcbhbpdbmnaa
open Go Go.AV
open Nat renaming reduceEqDiff → E, reduceAdd → D, reduceLeDiff → J, reduceLT → U, reduceMul → O, reduceSub → S
open List renaming set_cons_zero → aq, set_cons_succ → am
set_option maxRecDepth 100000 in
theorem p7 (d : Dfa) : bJ Try.prog 16 [d.av] (.tup [.one (.list (.int .i64) (gJ d)), .one (.bool (j3 d)), .one (.int .i64 (bo d))]) := by
 refine aS Try.func16 rfl (by kernel_rfl) (Nat.le_of_ble_eq_true rfl) rfl fun C hP hN hB => ?_
 replace hN : C.N = 34 := hN
 simp only [Z, D]
 refine ab fun K1 hK1 => ?_
 refine ai hP hN rfl ?_
 iterate 4 (refine ad rfl fun K0 V => ?_; simp only [zE, op1, ev, lkp, ah, ag, c0, au, reduceCtorEq, E, D, J, U, O, S, Try.el26, Try.st25, Try.td25, Try.td26, Try.td29, Try.td4, Dfa.av]; (repeat refine And.intro (by first | omega | assumption | exact rfl) ?_); refine V _ ?_; clear V K0; simp only [put, app, aa, af, zE, zS, D])
 refine aj ?_
 refine hK1 _ ?_; clear hK1; refine ae [0, 1, 2, 3, 4] ?_; simp only [Y, lkp, zE, reduceCtorEq, E, Z, D]
 refine ab fun K2 hK2 => ?_
 refine ab fun K3 hK3 => ?_
 refine ai hP hN rfl ?_
 (refine ad rfl fun K0 V => ?_; simp only [zE, op1, ev, lkp, ah, ag, az, Nat.mul_one, ax, ay, acs, Ty.dflt, zG, ao, reduceCtorEq, E, D, J, U, O, S, Try.st25, Try.td25, Dfa.av]; (repeat refine And.intro (by first | omega | assumption | exact rfl) ?_); refine V _ ?_; clear V K0; simp only [put, app, aa, af, zE, zS, D])
 refine ad rfl fun K0 V => ?_
 refine aW (h := aG (dt d)) rfl rfl (by first | exact rfl | (simp only [ev, Y, lkp, zE, reduceCtorEq, E, Z, D]; exact rfl)) (by simp only [zE, zG, op1, ev, lkp, ah, ag, au, acs, ba, mv1, mvC, Ty.dflt, reduceCtorEq, E, D, J, U, O, S, Dfa.av]) ?_
 refine V _ ?_; clear V K0; simp only [put, app, aa, af, zE, zS, D]
 (refine ad rfl fun K0 V => ?_; simp only [zE, op1, ev, lkp, ah, ag, ev, reduceCtorEq, E, D, J, U, O, S, Try.td29, Dfa.av]; refine V _ ?_; clear V K0; simp only [put, app, aa, af, zE, zS, D])
 refine aj ?_
 refine hK3 _ ?_; clear hK3; refine ae [0, 1, 2, 3, 4, 5] ?_; simp only [Y, lkp, zE, reduceCtorEq, E, Z, D]
 refine ab fun K4 hK4 => ?_
 refine ai hP hN rfl ?_
 iterate 2 (refine ad rfl fun K0 V => ?_; simp only [zE, op1, ev, lkp, ah, ag, aE, aC, aD, ar, aB, aN, reduceCtorEq, E, D, J, U, O, S, Try.td29, Try.td4, Dfa.av]; (repeat refine And.intro (by first | omega | assumption | exact rfl) ?_); refine V _ ?_; clear V K0; simp only [put, app, aa, af, zE, zS, D])
 refine aj ?_
 refine hK4 _ ?_; clear hK4; refine ae [0, 1, 2, 3, 4, 5, 13] ?_; simp only [Y, lkp, zE, reduceCtorEq, E, Z, D]
 refine aF (by simp only [ev, Y, lkp, zE, reduceCtorEq, E, Z, D]; exact rfl) (fun hc5 => ?_) (fun hc5 => ?_)
 ·(try simp only [zB, reduceCtorEq] at hc5)
  refine ab fun K6 hK6 => ?_
  refine ai hP hN rfl ?_
  iterate 4 (refine ad rfl fun K0 V => ?_; simp only [zE, op1, ev, lkp, ah, ag, ev, reduceCtorEq, E, D, J, U, O, S, Try.el26, Try.td26, Try.td29, Try.td4, Dfa.av]; refine V _ ?_; clear V K0; simp only [put, app, aa, af, zE, zS, D])
  refine aj ?_
  refine hK6 _ ?_; clear hK6; refine ae [0, 1, 2, 3, 4, 5, 13] ?_; simp only [Y, lkp, zE, reduceCtorEq, E, Z, D]
  refine aI ?_
  refine ⟨by first | exact .inl rfl | exact .inr rfl, _, rfl, ?_⟩; simp only [fzV, fz1, fzC, List.map_cons, List.map_nil, Y, lkp, zE, reduceCtorEq, E, Z, D, Dfa.av]
  first
  | (have e1 : gJ d = [] := if_neg (by assumption)
     have e2 : j3 d = false := if_neg (by assumption)
     rw [e1, e2]; exact bz ⟨aR (aT rfl), fun _ _ _ _ _ h => h, fun _ _ _ _ _ h => h, trivial⟩)
  | (have e1 : gJ d = laW (eF d) (g8 d) := if_pos hv
     have e2 : j3 d = dB (eF d) (g8 d) := if_pos hv
     rw [e1, e2, hv]; exact VLE.of_eq rfl)
 ·(try simp only [zB, reduceCtorEq] at hc5)
  have hv : bo d = 0 := by omega
  have hd := ef hv; have a1 := hd.i1; have a2 := hd.i2; have a3 := hd.n1; have a4 := hd.n2; have a5 := hd.s1; have a6 := hd.s2; have a7 := hd.al
  refine aK ?_
  refine hK2 _ ?_; clear hK2; refine ae [0, 1, 2, 3, 4, 5, 13] ?_; simp only [Y, lkp, zE, reduceCtorEq, E, Z, D]
  refine ab fun K7 hK7 => ?_
  refine cv 0 (.pair (.int .i64) (.pair (.int .i64) (.pair (.list (.list (.int .i64))) (.pair (.list .bool) .unit)))) rfl rfl ?_; simp only [List.map_cons, List.map_nil, shV, if_true, zS, if_false, eq_self, E, reduceCtorEq, Nat.one_ne_zero, Nat.zero_ne_one]
  refine ai hP hN rfl ?_
  iterate 2 (refine ad rfl fun K0 V => ?_; simp only [zE, op1, ev, lkp, ah, ag, cp, cK, di, reduceCtorEq, E, D, J, U, O, S, Try.td82, Dfa.av]; (repeat refine And.intro (by first | omega | assumption | exact rfl) ?_); (first | refine V _ ?_ | refine Or.inl (V _ ?_)); clear V K0; simp only [put, app, aa, af, zE, zS, D])
  refine aj ?_
  refine hK7 _ ?_; clear hK7; refine ae [0, 1, 2, 3, 4, 5, 6, 13] ?_; simp only [Y, lkp, zE, reduceCtorEq, E, Z, D]
  refine ab fun K8 hK8 => ?_
  refine ai hP hN rfl ?_
  iterate 7 (refine ad rfl fun K0 V => ?_; simp only [zE, op1, ev, lkp, ah, ag, aw, az, Nat.mul_one, ax, ay, acs, Ty.dflt, zG, ao, bW, bh, aQ, au, cp, cK, di, reduceCtorEq, E, D, J, U, O, S, Try.ea81, Try.sa81, Try.st25, Try.td1, Try.td25, Try.td3, Try.td81, Try.td82, Try.td87, Dfa.av]; (repeat refine And.intro (by first | omega | assumption | exact rfl) ?_); (first | refine V _ ?_ | refine Or.inl (V _ ?_)); clear V K0; simp only [put, app, aa, af, zE, zS, D])
  refine ad rfl fun K0 V => ?_
  refine aW (h := gM d.inp.toNat 45 47 [.pat (.pair (.int .i64) (.pair (.int .i64) (.pair (.list (.list (.int .i64))) (.pair (.list .bool) .unit)))) (d.inp, (d.st, (d.nx, (d.acc, ()))))] [.pat (.pair (.int .i64) (.pair (.int .i64) (.pair (.list (.list (.int .i64))) (.pair (.list .bool) .unit)))) (d.inp, (d.st, (d.nx, (d.acc, ()))))] (ku d) (eF d) (d.st, 0) d.nx.length 1 d.inp (by omega) rfl rfl (by omega) (by omega) (by omega) (by omega) (oD hd) (ng hd (by omega)) (fun q x hq hx => sA d q x hd hq (by omega)) (fun q hq => sj d q hd hq) _) rfl rfl (by first | exact rfl | (simp only [ev, Y, lkp, zE, reduceCtorEq, E, Z, D]; exact rfl)) (by simp only [zE, zG, op1, ev, lkp, ah, ag, au, acs, ba, mv1, mvC, Ty.dflt, reduceCtorEq, E, D, J, U, O, S, Dfa.av]) ?_
  refine V _ ?_; clear V K0; simp only [put, app, aa, af, zE, zS, D]
  iterate 7 (refine ad rfl fun K0 V => ?_; simp only [zE, op1, ev, lkp, ah, ag, bI, reduceCtorEq, E, D, J, U, O, S, Try.el83, Try.mk84, Try.td1, Try.td2, Try.td4, Try.td83, Dfa.av]; refine V _ ?_; clear V K0; simp only [put, app, aa, af, zE, zS, D])
  refine aj ?_
  refine hK8 _ ?_; clear hK8; refine ae [0, 1, 2, 3, 4, 5, 6, 7, 9, 13] ?_; simp only [Y, lkp, zE, reduceCtorEq, E, Z, D]
  refine ab fun K9 hK9 => ?_
  refine ai hP hN rfl ?_
  iterate 2 (refine ad rfl fun K0 V => ?_; simp only [zE, op1, ev, lkp, ah, ag, ev, reduceCtorEq, E, D, J, U, O, S, Try.el83, Try.td4, Try.td83, Dfa.av]; refine V _ ?_; clear V K0; simp only [put, app, aa, af, zE, zS, D])
  refine ad rfl fun K0 V => ?_
  refine aW (h := aG (nu (dQ (eF d) (g8 d)) (dB (eF d) (g8 d)) oo (Nat.le_trans (qI _ _) (r0 hd)))) rfl rfl (by first | exact rfl | (simp only [ev, Y, lkp, zE, reduceCtorEq, E, Z, D]; exact rfl)) (by simp only [zE, zG, op1, ev, lkp, ah, ag, au, acs, ba, mv1, mvC, Ty.dflt, reduceCtorEq, E, D, J, U, O, S, Dfa.av, g8]) ?_
  refine V _ ?_; clear V K0; simp only [put, app, aa, af, zE, zS, D]
  iterate 6 (refine ad rfl fun K0 V => ?_; simp only [zE, op1, ev, lkp, ah, ag, bI, reduceCtorEq, E, D, J, U, O, S, Try.el26, Try.td1, Try.td2, Try.td26, Try.td29, Try.td4, Dfa.av]; refine V _ ?_; clear V K0; simp only [put, app, aa, af, zE, zS, D])
  refine aj ?_
  refine hK9 _ ?_; clear hK9; refine ae [0, 1, 2, 3, 4, 5, 6, 7, 9, 13] ?_; simp only [Y, lkp, zE, reduceCtorEq, E, Z, D]
  refine aI ?_
  refine ⟨by first | exact .inl rfl | exact .inr rfl, _, rfl, ?_⟩; simp only [fzV, fz1, fzC, List.map_cons, List.map_nil, Y, lkp, zE, reduceCtorEq, E, Z, D, Dfa.av]
  first
  | (have e1 : gJ d = [] := if_neg (by assumption)
     have e2 : j3 d = false := if_neg (by assumption)
     rw [e1, e2]; exact bz ⟨aR (aT rfl), fun _ _ _ _ _ h => h, fun _ _ _ _ _ h => h, trivial⟩)
  | (have e1 : gJ d = laW (eF d) (g8 d) := if_pos hv
     have e2 : j3 d = dB (eF d) (g8 d) := if_pos hv
     rw [e1, e2, hv]; exact VLE.of_eq rfl)
end Go.Proofs.Ytdkgcbhbpdbmnaa
