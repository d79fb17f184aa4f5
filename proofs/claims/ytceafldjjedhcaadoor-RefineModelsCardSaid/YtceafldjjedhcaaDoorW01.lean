/- Contracts of functions of this seat, each out of a walk through its code, and plain facts on what they compute. Conditions: those that each theorem names. -/
import Derived.Test.YtceafldjjedhcaaDoorW00
set_option linter.unusedSimpArgs false
set_option linter.unusedVariables false
namespace Go.Proofs.YtceafldjjedhcaaDoor
open Go Go.AV
open Nat renaming reduceEqDiff → J, reduceAdd → E, reduceLeDiff → U, reduceLT → Z, reduceMul → V, reduceSub → Y
open List renaming set_cons_zero → aw, set_cons_succ → au
set_option maxRecDepth 100000 in
theorem je (m : Mly) (hv : bj m = 0) : cq Tryd.prog 14 [m.av] (.agg [.int .i64 m.inp, .int .i64 m.st, .list (.list (.int .i64)) m.nx, .list (.list (.int .i64)) m.ot, .list (.int .i64) (cE m.exR), .list (.list (.int .i64)) (dX m.exR), .list (.int .i64) m.eqc]) := by
 have hm := fX hv; have hn2 := hm.n2; have hi1 := hm.i1; have hi2 := hm.i2
 refine bt Tryd.func14 rfl (by kernel_rfl) (Nat.le_of_ble_eq_true rfl) rfl fun C hP hN hB => ?_
 replace hN : C.N = 70 := hN
 simp only [ae, E]
 refine ah fun K1 hK1 => ?_
 refine ao hP hN rfl ?_
 iterate 2 (refine ag rfl fun K0 aa => ?_; simp only [zE, op1, ev, lkp, am, ak, dn, ax, cC, reduceCtorEq, J, E, U, Z, V, Y, Tryd.st24, Tryd.st48, Tryd.td24, Tryd.td48, Mly.av]; (repeat refine And.intro (by first | omega | assumption | exact rfl) ?_); (first | refine aa _ ?_ | refine Or.inl (aa _ ?_)); clear aa K0; simp only [put, app, af, aj, zE, zS, E])
 refine aq ?_
 refine hK1 _ ?_; clear hK1; refine ai [0, 1, 2] ?_; simp only [ad, lkp, zE, reduceCtorEq, J, ae, E]
 refine ah fun K2 hK2 => ?_
 refine ao hP hN rfl ?_
 (refine ag rfl fun K0 aa => ?_; simp only [zE, op1, ev, lkp, am, ak, aE, Nat.mul_one, aC, aD, acs, Ty.dflt, zG, az, reduceCtorEq, J, E, U, Z, V, Y, Tryd.st24, Tryd.td24, Mly.av]; (repeat refine And.intro (by first | omega | assumption | exact rfl) ?_); refine aa _ ?_; clear aa K0; simp only [put, app, af, aj, zE, zS, E])
 refine ag rfl fun K0 aa => ?_
 refine aW (h := aF (qu m hv)) rfl rfl (by first | exact rfl | (simp only [ev, ad, lkp, zE, reduceCtorEq, J, ae, E]; exact rfl)) (by simp only [zE, zG, op1, ev, lkp, am, ak, ax, acs, bf, mv1, mvC, Ty.dflt, reduceCtorEq, J, E, U, Z, V, Y, Mly.av]) ?_
 refine aa _ ?_; clear aa K0; simp only [put, app, af, aj, zE, zS, E]
 iterate 5 (refine ag rfl fun K0 aa => ?_; simp only [zE, op1, ev, lkp, am, ak, bS, reduceCtorEq, J, E, U, Z, V, Y, Tryd.el25, Tryd.td1, Tryd.td25, Tryd.td28, Mly.av]; refine aa _ ?_; clear aa K0; simp only [put, app, af, aj, zE, zS, E])
 refine aq ?_
 refine hK2 _ ?_; clear hK2; refine ai [0, 1, 2, 3] ?_; simp only [ad, lkp, zE, reduceCtorEq, J, ae, E]
 refine ah fun K3 hK3 => ?_
 refine ao hP hN rfl ?_
 iterate 3 (refine ag rfl fun K0 aa => ?_; simp only [zE, op1, ev, lkp, am, ak, aE, Nat.mul_one, aC, aD, acs, Ty.dflt, zG, az, aA, reduceCtorEq, J, E, U, Z, V, Y, Tryd.st24, Tryd.td1, Tryd.td24, Tryd.td3, Mly.av]; (repeat refine And.intro (by first | omega | assumption | exact rfl) ?_); refine aa _ ?_; clear aa K0; simp only [put, app, af, aj, zE, zS, E])
 (refine ag rfl fun K0 aa => ?_; simp only [zE, op1, ev, lkp, am, ak, b0, bl, c8, rep, aM, aR, ax, Ty.size, reduceCtorEq, J, E, U, Z, V, Y, Tryd.el25, Tryd.td1, Tryd.td25, Mly.av]; (repeat refine And.intro (by first | omega | assumption | exact rfl) ?_); refine Or.inr (Or.inl (aa _ ?_)); clear aa K0; simp only [put, app, af, aj, zE, zS, E])
 (refine ag rfl fun K0 aa => ?_; simp only [zE, op1, ev, lkp, am, ak, b0, bl, c8, rep, aM, aR, ax, Ty.size, reduceCtorEq, J, E, U, Z, V, Y, Tryd.el22, Tryd.td1, Tryd.td22, Mly.av]; (repeat refine And.intro (by first | omega | assumption | exact rfl) ?_); refine Or.inr (Or.inl (aa _ ?_)); clear aa K0; simp only [put, app, af, aj, zE, zS, E])
 iterate 4 (refine ag rfl fun K0 aa => ?_; simp only [zE, op1, ev, lkp, am, ak, cF, bl, aR, ax, cC, bJ, Nat.mul_one, aM, acs, Ty.size, Ty.dflt, zG, reduceCtorEq, J, E, U, Z, V, Y, Tryd.el25, Tryd.st48, Tryd.td25, Tryd.td48, Mly.av]; (repeat refine And.intro (by first | omega | assumption | exact rfl) ?_); (first | refine aa _ ?_ | refine Or.inl (aa _ ?_)); clear aa K0; simp only [put, app, af, aj, zE, zS, E])
 refine aq ?_
 refine hK3 _ ?_; clear hK3; refine ai [0, 1, 2, 3, 5] ?_; simp only [ad, lkp, zE, reduceCtorEq, J, ae, E]
 refine ah fun K4 hK4 => ?_
 refine ah fun K5 hK5 => ?_
 refine ao hP hN rfl ?_
 (refine ag rfl fun K0 aa => ?_; simp only [zE, op1, ev, lkp, am, ak, ev, reduceCtorEq, J, E, U, Z, V, Y, Tryd.td3, Mly.av]; refine aa _ ?_; clear aa K0; simp only [put, app, af, aj, zE, zS, E])
 refine aq ?_
 refine hK5 _ ?_; clear hK5; refine ai [0, 1, 2, 3, 5, 6] ?_; simp only [ad, lkp, zE, reduceCtorEq, J, ae, E]
 refine b8 ?_
 refine cj (fun n6 s6 => ∃ (i : Nat) (l : List S2) (v : Nat), (WFX m l) ∧ (exF m (m.nx.length + 1 - i) i l = m.exR) ∧ (i ≤ l.length) ∧ n6 = m.nx.length + 1 - i ∧ s6 = { env := [(1, .one (.ptr 0 0 0 0)), (2, .one (.ptr 1 0 0 0)), (5, .one (.ptr 4 0 0 0)), (6, .one (.int .i64 (i : Int)))], L := [.vars 24 [.int .i64 m.inp, .int .i64 m.st, .list (.list (.int .i64)) m.nx, .list (.list (.int .i64)) m.ot], .vars 48 [.int .i64 0, .int .i64 0, .nils, .nils, .nils, .nils, .nils], .row (.int .i64) 3 v (cE l), .row (.list (.int .i64)) 25 v (dX l), .vars 48 [.int .i64 m.inp, .int .i64 m.st, .list (.list (.int .i64)) m.nx, .list (.list (.int .i64)) m.ot, .row 2 v, .row 3 v, .list (.int .i64) m.eqc]] }) ?_ ?_
 ·exact ⟨_, _, aY [1, 2, 5, 6], 0, [(m.st, [])], 0, lY hm, rfl, Nat.zero_le _, rfl, rfl⟩
 ·rintro n6 s6 ⟨i, l, v, hwf, hxf, hil0, rfl, rfl⟩
  refine ah fun K7 hK7 => ?_
  refine ah fun K8 hK8 => ?_
  refine ao hP hN rfl ?_
  iterate 5 (refine ag rfl fun K0 aa => ?_; simp only [zE, op1, ev, lkp, am, ak, aA, aE, Nat.mul_one, aC, aD, acs, Ty.dflt, zG, az, aP, bT, bC, bu, bv, bP, Nat.div_one, aV, bz, Ty.size, aM, dite_true, aJ, aK, aI, ay, aH, aX, reduceCtorEq, J, E, U, Z, V, Y, Tryd.el25, Tryd.st48, Tryd.td1, Tryd.td25, Tryd.td3, Tryd.td4, Tryd.td48, Mly.av, cS]; (repeat refine And.intro (by first | omega | assumption | exact rfl) ?_); (first | refine aa _ ?_ | refine Or.inl (aa _ ?_)); clear aa K0; simp only [put, app, af, aj, zE, zS, E])
  refine aq ?_
  refine hK8 _ ?_; clear hK8; refine ai [1, 2, 5, 6, 25] ?_; simp only [ad, lkp, zE, reduceCtorEq, J, ae, E]
  refine aL (by simp only [ev, ad, lkp, zE, reduceCtorEq, J, ae, E]; exact rfl) (fun hc9 => ?_) (fun hc9 => ?_)
  ·(try simp only [zB, reduceCtorEq] at hc9)
   refine aT ?_
   refine hK7 _ ?_; clear hK7; refine ai [1, 2, 5, 6, 25] ?_; simp only [ad, lkp, zE, reduceCtorEq, J, ae, E]
   refine ah fun K10 hK10 => ?_
   refine b8 ?_
   refine ah fun K11 hK11 => ?_
   have hil : i < l.length := by omega
   have hei := hwf.at_ hil; have hfl := cS l; have hgf := fI hil
   refine cB hP hN Tryd.mixed rfl ?_
   iterate 11 (refine ag rfl fun K0 aa => ?_; simp only [zE, op1, ev, lkp, am, ak, aA, aE, Nat.mul_one, aC, aD, acs, Ty.dflt, zG, az, aS, Ty.size, ne_eq, not_false_eq_true, Int.natCast_one, Int.mul_one, aP, bT, bC, bu, bv, bP, Nat.div_one, aV, bz, aM, dite_true, reduceCtorEq, J, E, U, Z, V, Y, Tryd.el22, Tryd.el25, Tryd.st24, Tryd.st48, Tryd.td1, Tryd.td2, Tryd.td22, Tryd.td24, Tryd.td25, Tryd.td3, Tryd.td48, Mly.av, hgf, cS]; (repeat refine And.intro (by first | omega | assumption | exact rfl) ?_); (first | refine aa _ ?_ | refine Or.inl (aa _ ?_)); clear aa K0; simp only [put, app, af, aj, zE, zS, E])
   refine aq ?_
   refine ⟨by kernel_rfl, ?_⟩
   refine hK11 _ ?_; clear hK11; refine ai [1, 2, 5, 6, 25, 36, 37, 38] ?_; simp only [ad, lkp, zE, reduceCtorEq, J, ae, E]
   refine b8 ?_
   refine cj (fun n12 s12 => ∃ (x : Nat) (v2 : Nat), (x ≤ (m.row (l.getD i eX0).1).length) ∧ (WFX m (dt m (l.getD i eX0) l x)) ∧ n12 = (m.row (l.getD i eX0).1).length - x ∧ s12 = { env := [(1, .one (.ptr 0 0 0 0)), (2, .one (.ptr 1 0 0 0)), (5, .one (.ptr 4 0 0 0)), (6, .one (.int .i64 (i : Int))), (36, .one (.list (.int .i64) (m.row (l.getD i eX0).1))), (37, .one (.int .i64 ((m.row (l.getD i eX0).1).length : Int))), (38, .one (.int .i64 (x : Int)))], L := [.vars 24 [.int .i64 m.inp, .int .i64 m.st, .list (.list (.int .i64)) m.nx, .list (.list (.int .i64)) m.ot], .vars 48 [.int .i64 0, .int .i64 0, .nils, .nils, .nils, .nils, .nils], .row (.int .i64) 3 v2 (cE (dt m (l.getD i eX0) l x)), .row (.list (.int .i64)) 25 v2 (dX (dt m (l.getD i eX0) l x)), .vars 48 [.int .i64 m.inp, .int .i64 m.st, .list (.list (.int .i64)) m.nx, .list (.list (.int .i64)) m.ot, .row 2 v2, .row 3 v2, .list (.int .i64) m.eqc]] }) ?_ ?_
   ·exact ⟨_, _, aY [1, 2, 5, 6, 36, 37, 38], 0, v, Nat.zero_le _, hwf, rfl, rfl⟩
   ·rintro n12 s12 ⟨x, v2, hx, hwr, rfl, rfl⟩
    refine ah fun K13 hK13 => ?_
    refine ao hP hN rfl ?_
    (refine ag rfl fun K0 aa => ?_; simp only [zE, op1, ev, lkp, am, ak, aJ, aK, aI, ay, aH, aX, reduceCtorEq, J, E, U, Z, V, Y, Tryd.td3, Mly.av]; (repeat refine And.intro (by first | omega | assumption | exact rfl) ?_); refine aa _ ?_; clear aa K0; simp only [put, app, af, aj, zE, zS, E])
    refine aq ?_
    refine hK13 _ ?_; clear hK13; refine ai [1, 2, 5, 6, 36, 37, 38, 39] ?_; simp only [ad, lkp, zE, reduceCtorEq, J, ae, E]
    refine ah fun K14 hK14 => ?_
    refine aL (by simp only [ev, ad, lkp, zE, reduceCtorEq, J, ae, E]; exact rfl) (fun hc15 => ?_) (fun hc15 => ?_)
    ·(try simp only [zB, reduceCtorEq] at hc15)
     refine aT ?_
     refine hK14 _ ?_; clear hK14; refine ai [1, 2, 5, 6, 36, 37, 38, 39] ?_; simp only [ad, lkp, zE, reduceCtorEq, J, ae, E]
     refine ah fun K16 hK16 => ?_
     refine b8 ?_
     refine ah fun K17 hK17 => ?_
     have hrl : ((m.row (l.getD i eX0).1).length : Int) = m.inp := hm.rl (l.getD i eX0).1.toNat (by omega)
     refine ao hP hN rfl ?_
     iterate 5 (refine ag rfl fun K0 aa => ?_; simp only [zE, op1, ev, lkp, am, ak, aS, zG, Ty.dflt, Ty.size, Nat.mul_one, ne_eq, not_false_eq_true, Int.natCast_one, Int.mul_one, aE, aC, aD, acs, az, reduceCtorEq, J, E, U, Z, V, Y, Tryd.el25, Tryd.td25, Tryd.td3, Mly.av]; (repeat refine And.intro (by first | omega | assumption | exact rfl) ?_); refine aa _ ?_; clear aa K0; simp only [put, app, af, aj, zE, zS, E])
     refine aq ?_
     refine hK17 _ ?_; clear hK17; refine ai [1, 2, 5, 6, 7, 8, 36, 37, 38, 39] ?_; simp only [ad, lkp, zE, reduceCtorEq, J, ae, E]
     refine ah fun K18 hK18 => ?_
     refine ao hP hN rfl ?_
     iterate 3 (refine ag rfl fun K0 aa => ?_; simp only [zE, op1, ev, lkp, am, ak, aA, aE, Nat.mul_one, aC, aD, acs, Ty.dflt, zG, az, reduceCtorEq, J, E, U, Z, V, Y, Tryd.el25, Tryd.st48, Tryd.td1, Tryd.td25, Tryd.td3, Tryd.td48, Mly.av]; (repeat refine And.intro (by first | omega | assumption | exact rfl) ?_); refine aa _ ?_; clear aa K0; simp only [put, app, af, aj, zE, zS, E])
     refine ag rfl fun K0 aa => ?_
     refine aW (h := l5 (args := [.one (.row 2 v2), .one (.int .i64 ((m.row (l.getD i eX0).1).getD x 0))]) (by simp [fzV, fz1, fzC]) rfl (qe (cE (dt m (l.getD i eX0) l x)) ((m.row (l.getD i eX0).1).getD x 0)) rfl) rfl rfl (by first | exact rfl | (simp only [ev, ad, lkp, zE, reduceCtorEq, J, ae, E]; exact rfl)) (by simp only [zE, zG, op1, ev, lkp, am, ak, ax, acs, bf, mv1, mvC, Ty.dflt, reduceCtorEq, J, E, U, Z, V, Y, Mly.av]) ?_
     refine aa _ ?_; clear aa K0; simp only [put, app, af, aj, zE, zS, E]
     (refine ag rfl fun K0 aa => ?_; simp only [zE, op1, ev, lkp, am, ak, fw, reduceCtorEq, J, E, U, Z, V, Y, Tryd.td4, Mly.av]; (repeat refine And.intro (by first | omega | assumption | exact rfl) ?_); refine aa _ ?_; clear aa K0; simp only [put, app, af, aj, zE, zS, E])
     refine aq ?_
     refine hK18 _ ?_; clear hK18; refine ai [1, 2, 5, 6, 7, 8, 36, 37, 38, 39, 47] ?_; simp only [ad, lkp, zE, reduceCtorEq, J, ae, E]
     refine aL (by simp only [ev, ad, lkp, zE, reduceCtorEq, J, ae, E]; exact rfl) (fun hc19 => ?_) (fun hc19 => ?_)
     ·(try simp only [zB, reduceCtorEq] at hc19)
      have hfl2 := cS (dt m (l.getD i eX0) l x); have hsl2 := dJ (dt m (l.getD i eX0) l x); have hge := m7 m (l.getD i eX0) l x; have hbr := hwr.le; have hgs : (dX (dt m (l.getD i eX0) l x)).getD i [] = (l.getD i eX0).2 := by rw [pW (by omega), uE m _ x hil]
      have hwl := hwf.wl _ (kz hil); have hbl := hwf.le
      refine cB hP hN Tryd.mixed rfl ?_
      iterate 15 (refine ag rfl fun K0 aa => ?_; simp only [zE, op1, ev, lkp, am, ak, aA, aE, Nat.mul_one, aC, aD, acs, Ty.dflt, zG, az, b0, bl, c8, rep, aM, aR, ax, Ty.size, aP, bT, bC, bu, bv, bP, Nat.div_one, aV, bz, dite_true, aS, ne_eq, not_false_eq_true, Int.natCast_one, Int.mul_one, reduceCtorEq, J, E, U, Z, V, Y, Tryd.el22, Tryd.el25, Tryd.st48, Tryd.td1, Tryd.td2, Tryd.td22, Tryd.td25, Tryd.td3, Tryd.td48, Mly.av, hgs, dJ, cS]; (repeat refine And.intro (by first | omega | assumption | exact rfl) ?_); (first | refine aa _ ?_ | refine Or.inl (aa _ ?_)); clear aa K0; simp only [put, app, af, aj, zE, zS, E])
      refine ag rfl fun K0 aa => ?_
      refine aW (h := aF (fk [(l.getD i eX0).2, [(x : Int)]] (by rw [eW]; omega))) rfl rfl (by first | exact rfl | (simp only [ev, ad, lkp, zE, reduceCtorEq, J, ae, E]; exact rfl)) (by simp only [zE, zG, op1, ev, lkp, am, ak, ax, acs, bf, mv1, mvC, Ty.dflt, reduceCtorEq, J, E, U, Z, V, Y, Mly.av, hgs, dJ, cS]) ?_
      refine aa _ ?_; clear aa K0; simp only [put, app, af, aj, zE, zS, E]
      iterate 6 (refine ag rfl fun K0 aa => ?_; simp only [zE, op1, ev, lkp, am, ak, b0, bl, c8, rep, aM, aR, ax, Ty.size, aP, bT, bC, bu, bv, bP, Nat.div_one, aV, bz, dite_true, aA, bJ, Nat.mul_one, acs, Ty.dflt, zG, reduceCtorEq, J, E, U, Z, V, Y, Tryd.el22, Tryd.el25, Tryd.st48, Tryd.td1, Tryd.td2, Tryd.td22, Tryd.td25, Tryd.td48, Mly.av, hgs, dJ, cS]; (repeat refine And.intro (by first | omega | assumption | exact rfl) ?_); (first | refine aa _ ?_ | refine Or.inl (aa _ ?_)); clear aa K0; simp only [put, app, af, aj, zE, zS, E])
      refine aq ?_
      refine ⟨by kernel_rfl, ?_⟩
      refine hK16 _ ?_; clear hK16; refine ai [1, 2, 5, 6, 7, 8, 36, 37, 38, 39, 47] ?_; simp only [ad, lkp, zE, reduceCtorEq, J, ae, E]
      refine ao hP hN rfl ?_
      iterate 2 (refine ag rfl fun K0 aa => ?_; simp only [zE, op1, ev, lkp, am, ak, aJ, aK, aI, ay, aH, aX, reduceCtorEq, J, E, U, Z, V, Y, Tryd.td3, Mly.av]; (repeat refine And.intro (by first | omega | assumption | exact rfl) ?_); refine aa _ ?_; clear aa K0; simp only [put, app, af, aj, zE, zS, E])
      refine aq ?_
      first
      | (have hin : ((m.row (l.getD i eX0).1).getD x 0) ∈ cE (dt m (l.getD i eX0) l x) := by simp_all
         refine ⟨_, _, ?_, aY [1, 2, 5, 6, 36, 37, 38], x + 1, v2, by omega, hwf.row hm hil (x + 1) (by omega), rfl, ?_⟩
         · omega
         · rw [dU, sN hin]; first | done | rfl)
      | (have hin : ((m.row (l.getD i eX0).1).getD x 0) ∉ cE (dt m (l.getD i eX0) l x) := by simp_all
         obtain ⟨e1, e2⟩ := pZ hin
         refine ⟨_, _, ?_, aY [1, 2, 5, 6, 36, 37, 38], x + 1, v2 + 1, by omega, hwf.row hm hil (x + 1) (by omega), rfl, ?_⟩
         · omega
         · rw [dU, e1, e2]; simp only [List.flatten_cons, List.flatten_nil, List.append_nil]; rfl)
     ·(try simp only [zB, reduceCtorEq] at hc19)
      refine aT ?_
      refine hK16 _ ?_; clear hK16; refine ai [1, 2, 5, 6, 7, 8, 36, 37, 38, 39, 47] ?_; simp only [ad, lkp, zE, reduceCtorEq, J, ae, E]
      refine ao hP hN rfl ?_
      iterate 2 (refine ag rfl fun K0 aa => ?_; simp only [zE, op1, ev, lkp, am, ak, aJ, aK, aI, ay, aH, aX, reduceCtorEq, J, E, U, Z, V, Y, Tryd.td3, Mly.av]; (repeat refine And.intro (by first | omega | assumption | exact rfl) ?_); refine aa _ ?_; clear aa K0; simp only [put, app, af, aj, zE, zS, E])
      refine aq ?_
      first
      | (have hin : ((m.row (l.getD i eX0).1).getD x 0) ∈ cE (dt m (l.getD i eX0) l x) := by simp_all
         refine ⟨_, _, ?_, aY [1, 2, 5, 6, 36, 37, 38], x + 1, v2, by omega, hwf.row hm hil (x + 1) (by omega), rfl, ?_⟩
         · omega
         · rw [dU, sN hin]; first | done | rfl)
      | (have hin : ((m.row (l.getD i eX0).1).getD x 0) ∉ cE (dt m (l.getD i eX0) l x) := by simp_all
         obtain ⟨e1, e2⟩ := pZ hin
         refine ⟨_, _, ?_, aY [1, 2, 5, 6, 36, 37, 38], x + 1, v2 + 1, by omega, hwf.row hm hil (x + 1) (by omega), rfl, ?_⟩
         · omega
         · rw [dU, e1, e2]; simp only [List.flatten_cons, List.flatten_nil, List.append_nil]; rfl)
    ·(try simp only [zB, reduceCtorEq] at hc15)
     refine cm ?_
     refine hK10 _ ?_; clear hK10; refine ai [1, 2, 5, 6, 36, 37, 38, 39] ?_; simp only [ad, lkp, zE, reduceCtorEq, J, ae, E]
     have hbg := hwf.le
     refine ao hP hN rfl ?_
     iterate 3 (refine ag rfl fun K0 aa => ?_; simp only [zE, op1, ev, lkp, am, ak, aJ, aK, aI, ay, aH, aX, reduceCtorEq, J, E, U, Z, V, Y, Tryd.td3, Mly.av]; (repeat refine And.intro (by first | omega | assumption | exact rfl) ?_); refine aa _ ?_; clear aa K0; simp only [put, app, af, aj, zE, zS, E])
     refine aq ?_
     have hbl := hwf.le
     have hge := m7 m (l.getD i eX0) l x
     have hrl : ((m.row (l.getD i eX0).1).length : Int) = m.inp := hm.rl (l.getD i eX0).1.toNat (by omega)
     have hxe : x = m.inp.toNat := by omega
     subst hxe
     refine ⟨_, _, ?_, aY [1, 2, 5, 6], i + 1, dt m (l.getD i eX0) l m.inp.toNat, v2, hwr, ?_, by omega, rfl, rfl⟩
     · omega
     · rw [← hxf, show m.nx.length + 1 - i = (m.nx.length + 1 - (i + 1)) + 1 by omega, tG m _ _ _ hil]
  ·(try simp only [zB, reduceCtorEq] at hc9)
   refine cm ?_
   refine hK4 _ ?_; clear hK4; refine ai [1, 2, 5, 6, 25] ?_; simp only [ad, lkp, zE, reduceCtorEq, J, ae, E]
   refine ah fun K20 hK20 => ?_
   refine ao hP hN rfl ?_
   iterate 2 (refine ag rfl fun K0 aa => ?_; simp only [zE, op1, ev, lkp, am, ak, aE, Nat.mul_one, aC, aD, acs, Ty.dflt, zG, az, bJ, ax, aR, aM, Ty.size, reduceCtorEq, J, E, U, Z, V, Y, Tryd.st48, Tryd.td48, Mly.av]; (repeat refine And.intro (by first | omega | assumption | exact rfl) ?_); refine aa _ ?_; clear aa K0; simp only [put, app, af, aj, zE, zS, E])
   refine aq ?_
   refine hK20 _ ?_; clear hK20; refine ai [1, 2, 5, 6, 25] ?_; simp only [ad, lkp, zE, reduceCtorEq, J, ae, E]
   refine aU ?_
   refine ⟨by first | exact .inl rfl | exact .inr rfl, .agg [.int .i64 m.inp, .int .i64 m.st, .list (.list (.int .i64)) m.nx, .list (.list (.int .i64)) m.ot, .row 2 v, .row 3 v, .list (.int .i64) m.eqc], by kernel_rfl, ?_⟩; simp only [fzV, fz1, fzC, List.map_cons, List.map_nil, ad, lkp, zE, reduceCtorEq, J, ae, E, Mly.av]
   refine VLE.of_eq ?_
   rw [← hxf, uy _ _ _ _ (by first | omega | (rw [cS] at *; omega))]
   all_goals (try simp [fzC])
end Go.Proofs.YtceafldjjedhcaaDoor
namespace Go.Proofs.YtceafldjjedhcaaDoor
open Go Go.AV
open Nat renaming reduceEqDiff → J, reduceAdd → E, reduceLeDiff → U, reduceLT → Z, reduceMul → V, reduceSub → Y
open List renaming set_cons_zero → aw, set_cons_succ → au
set_option maxRecDepth 100000 in
theorem sZ (xs : List Int) (f : Nat) (caps : List Cap) (p : Int → Bool) (hcap : caps.all kO = true) (hf : ∀ k, k < xs.length → cq Tryd.prog f (.one (.int .i64 (xs.getD k 0)) :: caps.map bf) (.one (.bool (p (xs.getD k 0))))) : cq Tryd.prog 37 [.one (.list (.int .i64) xs), .one (.fn f caps)] (.one (.int .i64 (eh p xs))) := by
 refine bt Tryd.func37 rfl (by kernel_rfl) (Nat.le_of_ble_eq_true rfl) (by simp only [List.all_cons, List.all_nil, gI, ib, ig, hcap, Bool.and_true]) fun C hP hN hB => ?_
 replace hN : C.N = 19 := hN
 simp only [ae, E]
 refine jD 0 rfl fun hf0 => ?_; simp only [lkp, if_true, if_false, reduceCtorEq, J, eq_self, Nat.one_ne_zero, Nat.zero_ne_one, nZ, lP, mw, Fit, and_true, implies_true, true_and] at hf0
 refine ah fun K1 hK1 => ?_
 refine ao hP hN rfl ?_
 (refine ag rfl fun K0 aa => ?_; simp only [zE, op1, ev, lkp, am, ak, ev, reduceCtorEq, J, E, U, Z, V, Y, Tryd.td3]; refine aa _ ?_; clear aa K0; simp only [put, app, af, aj, zE, zS, E])
 refine aq ?_
 refine hK1 _ ?_; clear hK1; refine ai [0, 1, 4] ?_; simp only [ad, lkp, zE, reduceCtorEq, J, ae, E]
 refine ah fun K2 hK2 => ?_
 refine ah fun K3 hK3 => ?_
 refine ao hP hN rfl ?_
 iterate 3 (refine ag rfl fun K0 aa => ?_; simp only [zE, op1, ev, lkp, am, ak, aP, bT, bC, bu, bv, bP, Nat.div_one, aV, bz, Ty.size, aM, dite_true, reduceCtorEq, J, E, U, Z, V, Y, Tryd.el25, Tryd.td25, Tryd.td3]; (repeat refine And.intro (by first | omega | assumption | exact rfl) ?_); (first | refine aa _ ?_ | refine Or.inl (aa _ ?_)); clear aa K0; simp only [put, app, af, aj, zE, zS, E])
 refine aq ?_
 refine hK3 _ ?_; clear hK3; refine ai [0, 1, 4, 7, 8] ?_; simp only [ad, lkp, zE, reduceCtorEq, J, ae, E]
 refine b8 ?_
 refine cj (fun n4 s4 => ∃ (k : Nat), (k ≤ xs.length) ∧ (∀ q, q < k → p (xs.getD q 0) = false) ∧ n4 = xs.length - k ∧ s4 = { env := [(0, .one (.list (.int .i64) xs)), (1, .one (.fn f caps)), (7, .one (.int .i64 (xs.length : Int))), (8, .one (.int .i64 (k : Int)))], L := [] }) ?_ ?_
 ·exact ⟨_, _, aY [0, 1, 7, 8], 0, Nat.zero_le _, fun i hi => by omega, rfl, rfl⟩
 ·rintro n4 s4 ⟨k, hk, hq, rfl, rfl⟩
  refine ah fun K5 hK5 => ?_
  refine ao hP hN rfl ?_
  (refine ag rfl fun K0 aa => ?_; simp only [zE, op1, ev, lkp, am, ak, aJ, aK, aI, ay, aH, aX, reduceCtorEq, J, E, U, Z, V, Y, Tryd.td3]; (repeat refine And.intro (by first | omega | assumption | exact rfl) ?_); refine aa _ ?_; clear aa K0; simp only [put, app, af, aj, zE, zS, E])
  refine aq ?_
  refine hK5 _ ?_; clear hK5; refine ai [0, 1, 7, 8, 9] ?_; simp only [ad, lkp, zE, reduceCtorEq, J, ae, E]
  refine ah fun K6 hK6 => ?_
  refine aL (by simp only [ev, ad, lkp, zE, reduceCtorEq, J, ae, E]; exact rfl) (fun hc7 => ?_) (fun hc7 => ?_)
  ·(try simp only [zB, reduceCtorEq] at hc7)
   refine aT ?_
   refine hK6 _ ?_; clear hK6; refine ai [0, 1, 7, 8, 9] ?_; simp only [ad, lkp, zE, reduceCtorEq, J, ae, E]
   refine ah fun K8 hK8 => ?_
   refine b8 ?_
   refine ah fun K9 hK9 => ?_
   refine ao hP hN rfl ?_
   iterate 2 (refine ag rfl fun K0 aa => ?_; simp only [zE, op1, ev, lkp, am, ak, ev, reduceCtorEq, J, E, U, Z, V, Y, Tryd.td3]; refine aa _ ?_; clear aa K0; simp only [put, app, af, aj, zE, zS, E])
   refine aq ?_
   refine hK9 _ ?_; clear hK9; refine ai [0, 1, 5, 7, 8, 9] ?_; simp only [ad, lkp, zE, reduceCtorEq, J, ae, E]
   refine ah fun K10 hK10 => ?_
   refine ao hP hN rfl ?_
   iterate 5 (refine ag rfl fun K0 aa => ?_; simp only [zE, op1, ev, lkp, am, ak, aS, zG, Ty.dflt, Ty.size, Nat.mul_one, ne_eq, not_false_eq_true, Int.natCast_one, Int.mul_one, aE, aC, aD, acs, az, reduceCtorEq, J, E, U, Z, V, Y, Tryd.el25, Tryd.td25, Tryd.td3, Tryd.td75]; (repeat refine And.intro (by first | omega | assumption | exact rfl) ?_); refine aa _ ?_; clear aa K0; simp only [put, app, af, aj, zE, zS, E])
   refine ag rfl fun K0 aa => ?_
   refine aW (h := aF (hf k (by omega))) rfl rfl (by first | exact rfl | (simp only [ev, ad, lkp, zE, reduceCtorEq, J, ae, E]; exact rfl)) (by simp only [zE, zG, op1, ev, lkp, am, ak, ax, acs, bf, mv1, mvC, Ty.dflt, reduceCtorEq, J, E, U, Z, V, Y]) ?_
   refine aa _ ?_; clear aa K0; simp only [put, app, af, aj, zE, zS, E]
   refine aq ?_
   refine hK10 _ ?_; clear hK10; refine ai [0, 1, 5, 7, 8, 9, 16] ?_; simp only [ad, lkp, zE, reduceCtorEq, J, ae, E]
   refine aL (by simp only [ev, ad, lkp, zE, reduceCtorEq, J, ae, E]; exact rfl) (fun hc11 => ?_) (fun hc11 => ?_)
   ·(try simp only [zB, reduceCtorEq] at hc11)
    refine ah fun K12 hK12 => ?_
    refine ao hP hN rfl ?_
    iterate 2 (refine ag rfl fun K0 aa => ?_; simp only [zE, op1, ev, lkp, am, ak, ev, reduceCtorEq, J, E, U, Z, V, Y, Tryd.td3]; refine aa _ ?_; clear aa K0; simp only [put, app, af, aj, zE, zS, E])
    refine aq ?_
    refine hK12 _ ?_; clear hK12; refine ai [0, 1, 4, 5, 7, 8, 9, 16] ?_; simp only [ad, lkp, zE, reduceCtorEq, J, ae, E]
    refine aU ?_
    refine ⟨by first | exact .inl rfl | exact .inr rfl, _, rfl, ?_⟩; simp only [fzV, fz1, fzC, List.map_cons, List.map_nil, ad, lkp, zE, reduceCtorEq, J, ae, E]
    refine VLE.of_eq ?_
    refine congrArg (fun n => AV.one (AC.int IntKind.i64 n)) ?_
    symm
    first
    | exact qb (by omega) hq (by assumption)
    | exact jp fun q hq2 => hq q (by omega)
   ·(try simp only [zB, reduceCtorEq] at hc11)
    refine aT ?_
    refine hK8 _ ?_; clear hK8; refine ai [0, 1, 5, 7, 8, 9, 16] ?_; simp only [ad, lkp, zE, reduceCtorEq, J, ae, E]
    refine ao hP hN rfl ?_
    iterate 2 (refine ag rfl fun K0 aa => ?_; simp only [zE, op1, ev, lkp, am, ak, aJ, aK, aI, ay, aH, aX, reduceCtorEq, J, E, U, Z, V, Y, Tryd.td3]; (repeat refine And.intro (by first | omega | assumption | exact rfl) ?_); refine aa _ ?_; clear aa K0; simp only [put, app, af, aj, zE, zS, E])
    refine aq ?_
    refine ⟨_, _, ?_, aY [0, 1, 7, 8], k + 1, by omega, fun q hq2 => ?_, rfl, rfl⟩
    · omega
    · by_cases e : q = k
      · rw [e]; assumption
      · exact hq q (by omega)
  ·(try simp only [zB, reduceCtorEq] at hc7)
   refine cm ?_
   refine hK2 _ ?_; clear hK2; refine ai [0, 1, 7, 8, 9] ?_; simp only [ad, lkp, zE, reduceCtorEq, J, ae, E]
   refine ah fun K13 hK13 => ?_
   refine ao hP hN rfl ?_
   (refine ag rfl fun K0 aa => ?_; simp only [zE, op1, ev, lkp, am, ak, ev, reduceCtorEq, J, E, U, Z, V, Y, Tryd.td3]; refine aa _ ?_; clear aa K0; simp only [put, app, af, aj, zE, zS, E])
   refine aq ?_
   refine hK13 _ ?_; clear hK13; refine ai [0, 1, 4, 7, 8, 9] ?_; simp only [ad, lkp, zE, reduceCtorEq, J, ae, E]
   refine aU ?_
   refine ⟨by first | exact .inl rfl | exact .inr rfl, _, rfl, ?_⟩; simp only [fzV, fz1, fzC, List.map_cons, List.map_nil, ad, lkp, zE, reduceCtorEq, J, ae, E]
   refine VLE.of_eq ?_
   refine congrArg (fun n => AV.one (AC.int IntKind.i64 n)) ?_
   symm
   first
   | exact qb (by omega) hq (by assumption)
   | exact jp fun q hq2 => hq q (by omega)
end Go.Proofs.YtceafldjjedhcaaDoor
namespace Go.Proofs.YtceafldjjedhcaaDoor
open Go Go.AV
open Nat renaming reduceEqDiff → J, reduceAdd → E, reduceLeDiff → U, reduceLT → Z, reduceMul → V, reduceSub → Y
open List renaming set_cons_zero → aw, set_cons_succ → au
set_option maxRecDepth 100000 in
theorem wo (f : Nat) (ds : List ((t : Ty) × t.den)) (d c : Int) (v : Bool) (h : cq Tryd.prog f (.one (.int .i64 d) :: .one (.int .i64 c) :: ds.map fun p => .one (.pat p.1 p.2 0)) (.one (.bool v))) : cq Tryd.prog 38 [.one (.int .i64 d), .one (.pfn f ds), .one (.pat (.int .i64) c 0)] (.one (.bool v)) := by
 refine bt Tryd.func38 rfl (by kernel_rfl) (Nat.le_of_ble_eq_true rfl) rfl fun C hP hN hB => ?_
 replace hN : C.N = 9 := hN
 simp only [ae, E]
 refine ah fun K1 hK1 => ?_
 refine ao hP hN rfl ?_
 (refine ag rfl fun K0 aa => ?_; simp only [zE, op1, ev, lkp, am, ak, ev, reduceCtorEq, J, E, U, Z, V, Y, Tryd.td4]; refine aa _ ?_; clear aa K0; simp only [put, app, af, aj, zE, zS, E])
 refine aq ?_
 refine hK1 _ ?_; clear hK1; refine ai [0, 1, 2, 4] ?_; simp only [ad, lkp, zE, reduceCtorEq, J, ae, E]
 refine ah fun K2 hK2 => ?_
 refine ao hP hN rfl ?_
 iterate 3 (refine ag rfl fun K0 aa => ?_; simp only [zE, op1, ev, lkp, am, ak, aE, Nat.mul_one, aC, aD, acs, Ty.dflt, zG, az, reduceCtorEq, J, E, U, Z, V, Y, Tryd.td3, Tryd.td71]; (repeat refine And.intro (by first | omega | assumption | exact rfl) ?_); refine aa _ ?_; clear aa K0; simp only [put, app, af, aj, zE, zS, E])
 refine ag rfl fun K0 aa => ?_
 refine aW (h := aF h) rfl rfl (by first | exact rfl | (simp only [ev, ad, lkp, zE, reduceCtorEq, J, ae, E]; exact rfl)) (by simp only [zE, zG, op1, ev, lkp, am, ak, ax, acs, bf, mv1, mvC, Ty.dflt, reduceCtorEq, J, E, U, Z, V, Y, rW]) ?_
 refine aa _ ?_; clear aa K0; simp only [put, app, af, aj, zE, zS, E]
 (refine ag rfl fun K0 aa => ?_; simp only [zE, op1, ev, lkp, am, ak, ev, reduceCtorEq, J, E, U, Z, V, Y, Tryd.td4]; refine aa _ ?_; clear aa K0; simp only [put, app, af, aj, zE, zS, E])
 refine aq ?_
 refine hK2 _ ?_; clear hK2; refine ai [0, 1, 2, 4] ?_; simp only [ad, lkp, zE, reduceCtorEq, J, ae, E]
 refine aU ?_
 refine ⟨by first | exact .inl rfl | exact .inr rfl, _, rfl, ?_⟩; simp only [fzV, fz1, fzC, List.map_cons, List.map_nil, ad, lkp, zE, reduceCtorEq, J, ae, E]
 refine VLE.of_eq ?_
 rfl
end Go.Proofs.YtceafldjjedhcaaDoor
namespace Go.Proofs.YtceafldjjedhcaaDoor
open Go Go.AV
open Nat renaming reduceEqDiff → J, reduceAdd → E, reduceLeDiff → U, reduceLT → Z, reduceMul → V, reduceSub → Y
open List renaming set_cons_zero → aw, set_cons_succ → au
set_option maxRecDepth 100000 in
theorem qD (n f : Nat) (ds : List ((t : Ty) × t.den)) (T : Nat → Nat → Bool) (hn : n ≤ 64) (hT : ∀ d c : Nat, d < n → c < n → cq Tryd.prog f (.one (.int .i64 (d : Int)) :: .one (.int .i64 (c : Int)) :: ds.map fun p => .one (.pat p.1 p.2 0)) (.one (.bool (T d c)))) : cq Tryd.prog 26 [.one (.int .i64 (n : Int)), .one (.fn f (ds.map fun p => .pat p.1 p.2))] (.tup [.one (.list (.int .i64) (nmS T n).1), .one (.int .i64 ((nmS T n).2.length : Int))]) := by
 refine bt Tryd.func26 rfl (by kernel_rfl) (Nat.le_of_ble_eq_true rfl) (by simp [gI, ib, ig, kO]) fun C hP hN hB => ?_
 replace hN : C.N = 33 := hN
 simp only [ae, E]
 refine ah fun K1 hK1 => ?_
 refine ao hP hN rfl ?_
 iterate 3 (refine ag rfl fun K0 aa => ?_; simp only [zE, op1, ev, lkp, am, ak, dn, ax, reduceCtorEq, J, E, U, Z, V, Y, Tryd.el25, Tryd.td25, Tryd.td3, Tryd.td71]; (repeat refine And.intro (by first | omega | assumption | exact rfl) ?_); refine aa _ ?_; clear aa K0; simp only [put, app, af, aj, zE, zS, E])
 refine aq ?_
 refine hK1 _ ?_; clear hK1; refine ai [0, 1, 3, 4, 5] ?_; simp only [ad, lkp, zE, reduceCtorEq, J, ae, E]
 refine ah fun K2 hK2 => ?_
 refine pN 0 f ds rfl ?_; simp only [List.map_cons, List.map_nil, shF, if_true, zS, if_false, eq_self, J, reduceCtorEq, Nat.one_ne_zero, Nat.zero_ne_one]
 refine ao hP hN rfl ?_
 iterate 2 (refine ag rfl fun K0 aa => ?_; simp only [zE, op1, ev, lkp, am, ak, ev, reduceCtorEq, J, E, U, Z, V, Y, Tryd.el25, Tryd.td25]; refine aa _ ?_; clear aa K0; simp only [put, app, af, aj, zE, zS, E])
 refine aq ?_
 refine hK2 _ ?_; clear hK2; refine ai [0, 1, 3, 4, 5, 6, 7] ?_; simp only [ad, lkp, zE, reduceCtorEq, J, ae, E]
 refine ah fun K3 hK3 => ?_
 refine ah fun K4 hK4 => ?_
 refine ao hP hN rfl ?_
 iterate 2 (refine ag rfl fun K0 aa => ?_; simp only [zE, op1, ev, lkp, am, ak, ev, reduceCtorEq, J, E, U, Z, V, Y, Tryd.td3]; refine aa _ ?_; clear aa K0; simp only [put, app, af, aj, zE, zS, E])
 refine aq ?_
 refine hK4 _ ?_; clear hK4; refine ai [0, 1, 3, 4, 5, 6, 7, 10, 11] ?_; simp only [ad, lkp, zE, reduceCtorEq, J, ae, E]
 refine b8 ?_
 refine eP 6 (.int .i64) 3 (by decide) rfl ?_; simp only [List.length_cons, List.length_nil, List.cons_append, List.nil_append, Nat.zero_add, E]
 refine eP 7 (.int .i64) 3 (by decide) rfl ?_; simp only [List.length_cons, List.length_nil, List.cons_append, List.nil_append, Nat.zero_add, E]
 refine cj (fun n5 s5 => ∃ (c : Nat) (v : Nat) (u : Nat), (c ≤ n) ∧ n5 = n - c ∧ s5 = { env := [(3, .one (.pfn f ds)), (6, .one (.row 1 v)), (7, .one (.row 2 u)), (10, .one (.int .i64 (n : Int))), (11, .one (.int .i64 (c : Int)))], L := [.dead 0, .row (.int .i64) 3 v (nmS T c).1, .row (.int .i64) 3 u (nmS T c).2] }) ?_ ?_
 ·exact ⟨_, _, aY [3, 6, 7, 10, 11], 0, 0, 0, Nat.zero_le _, rfl, rfl⟩
 ·rintro n5 s5 ⟨c, v, u, hc, rfl, rfl⟩
  refine ah fun K6 hK6 => ?_
  refine ao hP hN rfl ?_
  (refine ag rfl fun K0 aa => ?_; simp only [zE, op1, ev, lkp, am, ak, aJ, aK, aI, ay, aH, aX, reduceCtorEq, J, E, U, Z, V, Y, Tryd.td3, Tryd.td4]; (repeat refine And.intro (by first | omega | assumption | exact rfl) ?_); refine aa _ ?_; clear aa K0; simp only [put, app, af, aj, zE, zS, E])
  refine aq ?_
  refine hK6 _ ?_; clear hK6; refine ai [3, 6, 7, 10, 11, 12] ?_; simp only [ad, lkp, zE, reduceCtorEq, J, ae, E]
  refine ah fun K7 hK7 => ?_
  refine aL (by simp only [ev, ad, lkp, zE, reduceCtorEq, J, ae, E]; exact rfl) (fun hc8 => ?_) (fun hc8 => ?_)
  ·(try simp only [zB, reduceCtorEq] at hc8)
   refine aT ?_
   refine hK7 _ ?_; clear hK7; refine ai [3, 6, 7, 10, 11, 12] ?_; simp only [ad, lkp, zE, reduceCtorEq, J, ae, E]
   refine ah fun K9 hK9 => ?_
   refine b8 ?_
   refine ah fun K10 hK10 => ?_
   refine ao hP hN rfl ?_
   iterate 3 (refine ag rfl fun K0 aa => ?_; simp only [zE, op1, ev, lkp, am, ak, cC, bJ, Nat.mul_one, ax, aR, aM, acs, Ty.size, Ty.dflt, zG, reduceCtorEq, J, E, U, Z, V, Y, Tryd.td3]; (repeat refine And.intro (by first | omega | assumption | exact rfl) ?_); (first | refine aa _ ?_ | refine Or.inl (aa _ ?_)); clear aa K0; simp only [put, app, af, aj, zE, zS, E])
   refine aq ?_
   refine hK10 _ ?_; clear hK10; refine ai [3, 6, 7, 8, 10, 11, 12] ?_; simp only [ad, lkp, zE, reduceCtorEq, J, ae, E]
   refine ah fun K11 hK11 => ?_
   refine dO 3 (.int .i64) rfl rfl ?_; simp only [List.map_cons, List.map_nil, shV, if_true, zS, if_false, eq_self, J, reduceCtorEq, Nat.one_ne_zero, Nat.zero_ne_one]
   have hrg := pX T c; have hib := uV (fun d => T d.toNat c) (nmS T c).2
   have hidx : ∀ k, k < (nmS T c).2.length → cq Tryd.prog 38 (.one (.int .i64 ((nmS T c).2.getD k 0)) :: List.map bf [.pfn f ds, .pat (.int .i64) (c : Int)]) (.one (.bool (T ((nmS T c).2.getD k 0).toNat c))) := fun k hk => by
     have hx := hrg.2.2 _ (cU hk)
     have h1 := hT ((nmS T c).2.getD k 0).toNat c (by omega) (by omega)
     rw [Int.toNat_of_nonneg hx.1] at h1
     exact wo f ds _ _ _ h1
   refine ao hP hN rfl ?_
   iterate 2 (refine ag rfl fun K0 aa => ?_; simp only [zE, op1, ev, lkp, am, ak, eH, fA, jq, reduceCtorEq, J, E, U, Z, V, Y, Tryd.el25, Tryd.td25, Tryd.td75]; (repeat refine And.intro (by first | omega | assumption | exact rfl) ?_); (first | refine aa _ ?_ | refine Or.inl (aa _ ?_)); clear aa K0; simp only [put, app, af, aj, zE, zS, E])
   refine ag rfl fun K0 aa => ?_
   refine aW (h := l5 (args := [.one (.row 2 u), .one (.fn 38 [.pfn f ds, .pat (.int .i64) (c : Int)])]) (by simp [fzV, fz1, fzC, kO]) rfl (sZ (nmS T c).2 38 [.pfn f ds, .pat (.int .i64) (c : Int)] (fun d => T d.toNat c) rfl hidx) rfl) rfl rfl (by first | exact rfl | (simp only [ev, ad, lkp, zE, reduceCtorEq, J, ae, E]; exact rfl)) (by simp only [zE, zG, op1, ev, lkp, am, ak, ax, acs, bf, mv1, mvC, Ty.dflt, reduceCtorEq, J, E, U, Z, V, Y]) ?_
   refine aa _ ?_; clear aa K0; simp only [put, app, af, aj, zE, zS, E]
   (refine ag rfl fun K0 aa => ?_; simp only [zE, op1, ev, lkp, am, ak, ev, reduceCtorEq, J, E, U, Z, V, Y, Tryd.td3]; refine aa _ ?_; clear aa K0; simp only [put, app, af, aj, zE, zS, E])
   refine aq ?_
   refine hK11 _ ?_; clear hK11; refine ai [3, 6, 7, 8, 9, 10, 11, 12] ?_; simp only [ad, lkp, zE, reduceCtorEq, J, ae, E]
   refine ah fun K12 hK12 => ?_
   refine ah fun K13 hK13 => ?_
   refine ao hP hN rfl ?_
   iterate 2 (refine ag rfl fun K0 aa => ?_; simp only [zE, op1, ev, lkp, am, ak, aJ, aK, aI, ay, aH, aX, reduceCtorEq, J, E, U, Z, V, Y, Tryd.td3, Tryd.td4]; (repeat refine And.intro (by first | omega | assumption | exact rfl) ?_); refine aa _ ?_; clear aa K0; simp only [put, app, af, aj, zE, zS, E])
   refine aq ?_
   refine hK13 _ ?_; clear hK13; refine ai [3, 6, 7, 8, 9, 10, 11, 12, 18] ?_; simp only [ad, lkp, zE, reduceCtorEq, J, ae, E]
   refine aL (by simp only [ev, ad, lkp, zE, reduceCtorEq, J, ae, E]; exact rfl) (fun hc14 => ?_) (fun hc14 => ?_)
   ·(try simp only [zB, reduceCtorEq] at hc14)
    refine ah fun K15 hK15 => ?_
    refine ao hP hN rfl ?_
    iterate 3 (refine ag rfl fun K0 aa => ?_; simp only [zE, op1, ev, lkp, am, ak, aP, bT, bC, bu, bv, bP, Nat.div_one, aV, bz, Ty.size, aM, dite_true, reduceCtorEq, J, E, U, Z, V, Y, Tryd.el25, Tryd.td25, Tryd.td3]; (repeat refine And.intro (by first | omega | assumption | exact rfl) ?_); (first | refine aa _ ?_ | refine Or.inl (aa _ ?_)); clear aa K0; simp only [put, app, af, aj, zE, zS, E])
    refine aq ?_
    refine hK15 _ ?_; clear hK15; refine ai [3, 6, 7, 8, 9, 10, 11, 12, 18] ?_; simp only [ad, lkp, zE, reduceCtorEq, J, ae, E]
    refine ao hP hN rfl ?_
    iterate 5 (refine ag rfl fun K0 aa => ?_; simp only [zE, op1, ev, lkp, am, ak, aE, Nat.mul_one, aC, aD, acs, Ty.dflt, zG, az, b0, bl, c8, rep, aM, aR, ax, Ty.size, aP, bT, bC, bu, bv, bP, Nat.div_one, aV, bz, dite_true, reduceCtorEq, J, E, U, Z, V, Y, Tryd.el25, Tryd.td1, Tryd.td25, Tryd.td3]; (repeat refine And.intro (by first | omega | assumption | exact rfl) ?_); (first | refine aa _ ?_ | refine Or.inl (aa _ ?_)); clear aa K0; simp only [put, app, af, aj, zE, zS, E])
    refine aq ?_
    refine hK12 _ ?_; clear hK12; refine ai [3, 6, 7, 8, 9, 10, 11, 12, 18] ?_; simp only [ad, lkp, zE, reduceCtorEq, J, ae, E]
    refine ao hP hN rfl ?_
    iterate 5 (refine ag rfl fun K0 aa => ?_; simp only [zE, op1, ev, lkp, am, ak, b0, bl, c8, rep, aM, aR, ax, Ty.size, aP, bT, bC, bu, bv, bP, Nat.div_one, aV, bz, dite_true, reduceCtorEq, J, E, U, Z, V, Y, Tryd.el25, Tryd.td1, Tryd.td25, Tryd.td3]; (repeat refine And.intro (by first | omega | assumption | exact rfl) ?_); (first | refine aa _ ?_ | refine Or.inl (aa _ ?_)); clear aa K0; simp only [put, app, af, aj, zE, zS, E])
    refine aq ?_
    refine hK9 _ ?_; clear hK9; refine ai [3, 6, 7, 8, 9, 10, 11, 12, 18] ?_; simp only [ad, lkp, zE, reduceCtorEq, J, ae, E]
    refine ai [3, 6, 7, 10, 11] ?_; simp only [ad, lkp, zE, reduceCtorEq, J]
    refine d7 (n := 3) (L1 := [_, _, _]) rfl rfl (by rw [hB]; decide) rfl rfl ?_
    refine ao hP hN rfl ?_
    iterate 2 (refine ag rfl fun K0 aa => ?_; simp only [zE, op1, ev, lkp, am, ak, aJ, aK, aI, ay, aH, aX, reduceCtorEq, J, E, U, Z, V, Y, Tryd.td3]; (repeat refine And.intro (by first | omega | assumption | exact rfl) ?_); refine aa _ ?_; clear aa K0; simp only [put, app, af, aj, zE, zS, E])
    refine aq ?_
    first
    | (have hnw : eh (fun d => T d.toNat c) (nmS T c).2 < 0 := by omega
       refine ⟨_, _, ?_, aY [3, 6, 7, 10, 11], c + 1, v + 1, u + 1, by omega, rfl, ?_⟩
       · omega
       · rw [mg hnw]; rfl)
    | (have hnw : ¬ eh (fun d => T d.toNat c) (nmS T c).2 < 0 := by omega
       refine ⟨_, _, ?_, aY [3, 6, 7, 10, 11], c + 1, v + 1, u, by omega, rfl, ?_⟩
       · omega
       · rw [mD hnw]; rfl)
   ·(try simp only [zB, reduceCtorEq] at hc14)
    refine aT ?_
    refine hK12 _ ?_; clear hK12; refine ai [3, 6, 7, 8, 9, 10, 11, 12, 18] ?_; simp only [ad, lkp, zE, reduceCtorEq, J, ae, E]
    refine ao hP hN rfl ?_
    iterate 5 (refine ag rfl fun K0 aa => ?_; simp only [zE, op1, ev, lkp, am, ak, b0, bl, c8, rep, aM, aR, ax, Ty.size, aP, bT, bC, bu, bv, bP, Nat.div_one, aV, bz, dite_true, reduceCtorEq, J, E, U, Z, V, Y, Tryd.el25, Tryd.td1, Tryd.td25, Tryd.td3]; (repeat refine And.intro (by first | omega | assumption | exact rfl) ?_); (first | refine aa _ ?_ | refine Or.inl (aa _ ?_)); clear aa K0; simp only [put, app, af, aj, zE, zS, E])
    refine aq ?_
    refine hK9 _ ?_; clear hK9; refine ai [3, 6, 7, 8, 9, 10, 11, 12, 18] ?_; simp only [ad, lkp, zE, reduceCtorEq, J, ae, E]
    refine ai [3, 6, 7, 10, 11] ?_; simp only [ad, lkp, zE, reduceCtorEq, J]
    refine d7 (n := 3) (L1 := [_, _, _]) rfl rfl (by rw [hB]; decide) rfl rfl ?_
    refine ao hP hN rfl ?_
    iterate 2 (refine ag rfl fun K0 aa => ?_; simp only [zE, op1, ev, lkp, am, ak, aJ, aK, aI, ay, aH, aX, reduceCtorEq, J, E, U, Z, V, Y, Tryd.td3]; (repeat refine And.intro (by first | omega | assumption | exact rfl) ?_); refine aa _ ?_; clear aa K0; simp only [put, app, af, aj, zE, zS, E])
    refine aq ?_
    first
    | (have hnw : eh (fun d => T d.toNat c) (nmS T c).2 < 0 := by omega
       refine ⟨_, _, ?_, aY [3, 6, 7, 10, 11], c + 1, v + 1, u + 1, by omega, rfl, ?_⟩
       · omega
       · rw [mg hnw]; rfl)
    | (have hnw : ¬ eh (fun d => T d.toNat c) (nmS T c).2 < 0 := by omega
       refine ⟨_, _, ?_, aY [3, 6, 7, 10, 11], c + 1, v + 1, u, by omega, rfl, ?_⟩
       · omega
       · rw [mD hnw]; rfl)
  ·(try simp only [zB, reduceCtorEq] at hc8)
   refine cm ?_
   refine hK3 _ ?_; clear hK3; refine ai [3, 6, 7, 10, 11, 12] ?_; simp only [ad, lkp, zE, reduceCtorEq, J, ae, E]
   refine ah fun K16 hK16 => ?_
   refine ao hP hN rfl ?_
   iterate 5 (refine ag rfl fun K0 aa => ?_; simp only [zE, op1, ev, lkp, am, ak, aP, bT, bC, bu, bv, bP, Nat.div_one, aV, bz, Ty.size, aM, dite_true, reduceCtorEq, J, E, U, Z, V, Y, Tryd.el25, Tryd.td25, Tryd.td3]; (repeat refine And.intro (by first | omega | assumption | exact rfl) ?_); (first | refine aa _ ?_ | refine Or.inl (aa _ ?_)); clear aa K0; simp only [put, app, af, aj, zE, zS, E])
   refine aq ?_
   refine hK16 _ ?_; clear hK16; refine ai [3, 4, 5, 6, 7, 10, 11, 12] ?_; simp only [ad, lkp, zE, reduceCtorEq, J, ae, E]
   refine aU ?_
   refine ⟨by first | exact .inl rfl | exact .inr rfl, _, rfl, ?_⟩; simp only [fzV, fz1, fzC, List.map_cons, List.map_nil, ad, lkp, zE, reduceCtorEq, J, ae, E]
   refine VLE.of_eq ?_
   have hcn : c = n := by omega
   subst hcn
   rfl
end Go.Proofs.YtceafldjjedhcaaDoor
namespace Go.Proofs.YtceafldjjedhcaaDoor
open Go Go.AV
open Nat renaming reduceEqDiff → J, reduceAdd → E, reduceLeDiff → U, reduceLT → Z, reduceMul → V, reduceSub → Y
open List renaming set_cons_zero → aw, set_cons_succ → au
theorem t8 (m : Mly) (n f : Nat) (ds : List ((t : Ty) × t.den)) (T : Nat → Nat → Bool) (hn : n ≤ 64) (e : m.inp = (n : Int)) (hT : ∀ d c : Nat, d < n → c < n → cq Tryd.prog f (.one (.int .i64 (d : Int)) :: .one (.int .i64 (c : Int)) :: ds.map fun p => .one (.pat p.1 p.2 0)) (.one (.bool (T d c)))) :
    cq Tryd.prog 26 [.one (.int .i64 m.inp), .one (.fn f (ds.map fun p => .pat p.1 p.2))] (.tup [.one (.list (.int .i64) (nmS T n).1), .one (.int .i64 ((nmS T n).2.length : Int))]) := by
  rw [e]; exact qD n f ds T hn hT

end Go.Proofs.YtceafldjjedhcaaDoor
namespace Go.Proofs.YtceafldjjedhcaaDoor
open Go Go.AV
open Nat renaming reduceEqDiff → J, reduceAdd → E, reduceLeDiff → U, reduceLT → Z, reduceMul → V, reduceSub → Y
open List renaming set_cons_zero → aw, set_cons_succ → au
set_option maxRecDepth 100000 in
theorem vR (xs : List Int) (f : Nat) (caps : List Cap) (p : Int → Bool) (hcap : caps.all kO = true) (hf : ∀ k, k < xs.length → cq Tryd.prog f (.one (.int .i64 (xs.getD k 0)) :: caps.map bf) (.one (.bool (p (xs.getD k 0))))) : cq Tryd.prog 28 [.one (.list (.int .i64) xs), .one (.fn f caps)] (.one (.bool (decide (0 ≤ eh p xs)))) := by
 refine bt Tryd.func28 rfl (by kernel_rfl) (Nat.le_of_ble_eq_true rfl) (by simp only [List.all_cons, List.all_nil, gI, ib, ig, hcap, Bool.and_true]) fun C hP hN hB => ?_
 replace hN : C.N = 9 := hN
 simp only [ae, E]
 refine ah fun K1 hK1 => ?_
 refine ao hP hN rfl ?_
 (refine ag rfl fun K0 aa => ?_; simp only [zE, op1, ev, lkp, am, ak, ev, reduceCtorEq, J, E, U, Z, V, Y, Tryd.td4]; refine aa _ ?_; clear aa K0; simp only [put, app, af, aj, zE, zS, E])
 refine aq ?_
 refine hK1 _ ?_; clear hK1; refine ai [0, 1, 4] ?_; simp only [ad, lkp, zE, reduceCtorEq, J, ae, E]
 refine ah fun K2 hK2 => ?_
 refine ao hP hN rfl ?_
 iterate 2 (refine ag rfl fun K0 aa => ?_; simp only [zE, op1, ev, lkp, am, ak, ev, reduceCtorEq, J, E, U, Z, V, Y, Tryd.el25, Tryd.td25, Tryd.td75]; refine aa _ ?_; clear aa K0; simp only [put, app, af, aj, zE, zS, E])
 refine ag rfl fun K0 aa => ?_
 refine aW (h := aF (sZ xs f caps p hcap hf)) rfl rfl (by first | exact rfl | (simp only [ev, ad, lkp, zE, reduceCtorEq, J, ae, E]; exact rfl)) (by simp only [zE, zG, op1, ev, lkp, am, ak, ax, acs, bf, mv1, mvC, Ty.dflt, reduceCtorEq, J, E, U, Z, V, Y]) ?_
 refine aa _ ?_; clear aa K0; simp only [put, app, af, aj, zE, zS, E]
 iterate 2 (refine ag rfl fun K0 aa => ?_; simp only [zE, op1, ev, lkp, am, ak, aJ, aK, aI, ay, aH, aX, reduceCtorEq, J, E, U, Z, V, Y, Tryd.td3, Tryd.td4]; (repeat refine And.intro (by first | omega | assumption | exact rfl) ?_); refine aa _ ?_; clear aa K0; simp only [put, app, af, aj, zE, zS, E])
 refine aq ?_
 refine hK2 _ ?_; clear hK2; refine ai [0, 1, 4] ?_; simp only [ad, lkp, zE, reduceCtorEq, J, ae, E]
 refine aU ?_
 refine ⟨by first | exact .inl rfl | exact .inr rfl, _, rfl, ?_⟩; simp only [fzV, fz1, fzC, List.map_cons, List.map_nil, ad, lkp, zE, reduceCtorEq, J, ae, E]
 refine VLE.of_eq ?_
 rfl
end Go.Proofs.YtceafldjjedhcaaDoor
namespace Go.Proofs.YtceafldjjedhcaaDoor
open Go Go.AV
open Nat renaming reduceEqDiff → J, reduceAdd → E, reduceLeDiff → U, reduceLT → Z, reduceMul → V, reduceSub → Y
open List renaming set_cons_zero → aw, set_cons_succ → au
set_option maxRecDepth 100000 in
theorem nq (m : Mly) (X : List S2) (s : Int) (c d : Nat) (hm : MOK m) (h0 : 0 ≤ s ∧ s < m.nx.length) (hc : (c : Int) < m.inp) (hd : (d : Int) < m.inp) : cq Tryd.prog 25 [.agg [.int .i64 m.inp, .int .i64 m.st, .list (.list (.int .i64)) m.nx, .list (.list (.int .i64)) m.ot, .list (.int .i64) (cE X), .list (.list (.int .i64)) (dX X), .list (.int .i64) m.eqc], .one (.int .i64 s), .one (.int .i64 (c : Int)), .one (.int .i64 (d : Int))] (.one (.bool (i3 m s c d))) := by
 have h1 := hm.rl s.toNat (by omega); have h2 := hm.ql s.toNat (by omega); have h3 := hm.ol; have h4 := hm.nr s.toNat c (by omega) hc; have h5 := hm.nr s.toNat d (by omega) hd; have h6 := (dY hm).len
 refine bt Tryd.func25 rfl (by kernel_rfl) (Nat.le_of_ble_eq_true rfl) rfl fun C hP hN hB => ?_
 replace hN : C.N = 57 := hN
 simp only [ae, E]
 refine ah fun K1 hK1 => ?_
 refine ao hP hN rfl ?_
 iterate 2 (refine ag rfl fun K0 aa => ?_; simp only [zE, op1, ev, lkp, am, ak, dn, ax, reduceCtorEq, J, E, U, Z, V, Y, Tryd.st48, Tryd.td4, Tryd.td48]; (repeat refine And.intro (by first | omega | assumption | exact rfl) ?_); refine aa _ ?_; clear aa K0; simp only [put, app, af, aj, zE, zS, E])
 refine aq ?_
 refine hK1 _ ?_; clear hK1; refine ai [0, 1, 2, 3, 4, 8] ?_; simp only [ad, lkp, zE, reduceCtorEq, J, ae, E]
 refine ah fun K2 hK2 => ?_
 refine cB hP hN Tryd.mixed rfl ?_
 iterate 19 (refine ag rfl fun K0 aa => ?_; simp only [zE, op1, ev, lkp, am, ak, aA, aE, Nat.mul_one, aC, aD, acs, Ty.dflt, zG, az, aS, Ty.size, ne_eq, not_false_eq_true, Int.natCast_one, Int.mul_one, aJ, aK, aI, ay, aH, aX, reduceCtorEq, J, E, U, Z, V, Y, Tryd.el22, Tryd.el25, Tryd.st24, Tryd.st48, Tryd.td22, Tryd.td24, Tryd.td25, Tryd.td3, Tryd.td4, Tryd.td48]; (repeat refine And.intro (by first | omega | assumption | exact rfl) ?_); refine aa _ ?_; clear aa K0; simp only [put, app, af, aj, zE, zS, E])
 (refine ag rfl fun K0 aa => ?_; simp only [zE, op1, ev, lkp, am, ak, ev, reduceCtorEq, J, E, U, Z, V, Y, Tryd.td4]; refine aa _ ?_; clear aa K0; simp only [put, app, af, aj, zE, zS, E])
 refine' bn (want := true) 27 rfl (m := 28) (by simp only [ad, lkp, zE, reduceCtorEq, J, ae, E]; exact rfl) (by kernel_rfl) rfl rfl rfl rfl rfl (fun hg3 => ?a3) ?b3 ?c3
 case a3 =>
  have hq3 := hg3; (try simp only [zB, reduceCtorEq] at hg3); simp only [List.take_succ_cons, List.take_zero, List.cons_append, List.nil_append]
  (refine aG rfl fun K0 aa => ?_; simp only [zE, op1, ev, lkp, am, ak, aA, reduceCtorEq, J, E, U, Z, V, Y, Tryd.st48, Tryd.td3, Tryd.td48]; (repeat refine And.intro (by first | omega | assumption | exact rfl) ?_); refine aa _ ?_; clear aa K0; simp only [put, app, af, aj, zE, zS, E])
  (refine aG rfl fun K0 aa => ?_; simp only [zE, op1, ev, lkp, am, ak, aE, Nat.mul_one, aC, aD, acs, Ty.dflt, zG, az, reduceCtorEq, J, E, U, Z, V, Y, Tryd.el25, Tryd.td25]; (repeat refine And.intro (by first | omega | assumption | exact rfl) ?_); refine aa _ ?_; clear aa K0; simp only [put, app, af, aj, zE, zS, E])
  (refine aG rfl fun K0 aa => ?_; simp only [zE, op1, ev, lkp, am, ak, aA, reduceCtorEq, J, E, U, Z, V, Y, Tryd.st48, Tryd.td48]; (repeat refine And.intro (by first | omega | assumption | exact rfl) ?_); refine aa _ ?_; clear aa K0; simp only [put, app, af, aj, zE, zS, E])
  (refine aG rfl fun K0 aa => ?_; simp only [zE, op1, ev, lkp, am, ak, aA, reduceCtorEq, J, E, U, Z, V, Y, Tryd.st24, Tryd.td2, Tryd.td24]; (repeat refine And.intro (by first | omega | assumption | exact rfl) ?_); refine aa _ ?_; clear aa K0; simp only [put, app, af, aj, zE, zS, E])
  (refine aG rfl fun K0 aa => ?_; simp only [zE, op1, ev, lkp, am, ak, aE, Nat.mul_one, aC, aD, acs, Ty.dflt, zG, az, reduceCtorEq, J, E, U, Z, V, Y, Tryd.el22, Tryd.td22]; (repeat refine And.intro (by first | omega | assumption | exact rfl) ?_); refine aa _ ?_; clear aa K0; simp only [put, app, af, aj, zE, zS, E])
  (refine aG rfl fun K0 aa => ?_; simp only [zE, op1, ev, lkp, am, ak, ev, reduceCtorEq, J, E, U, Z, V, Y, Tryd.td3]; refine aa _ ?_; clear aa K0; simp only [put, app, af, aj, zE, zS, E])
  (refine aG rfl fun K0 aa => ?_; simp only [zE, op1, ev, lkp, am, ak, aS, zG, Ty.dflt, Ty.size, Nat.mul_one, ne_eq, not_false_eq_true, Int.natCast_one, Int.mul_one, reduceCtorEq, J, E, U, Z, V, Y, Tryd.el22, Tryd.td22]; (repeat refine And.intro (by first | omega | assumption | exact rfl) ?_); refine aa _ ?_; clear aa K0; simp only [put, app, af, aj, zE, zS, E])
  (refine aG rfl fun K0 aa => ?_; simp only [zE, op1, ev, lkp, am, ak, aE, Nat.mul_one, aC, aD, acs, Ty.dflt, zG, az, reduceCtorEq, J, E, U, Z, V, Y, Tryd.el25, Tryd.td25]; (repeat refine And.intro (by first | omega | assumption | exact rfl) ?_); refine aa _ ?_; clear aa K0; simp only [put, app, af, aj, zE, zS, E])
  (refine aG rfl fun K0 aa => ?_; simp only [zE, op1, ev, lkp, am, ak, ev, reduceCtorEq, J, E, U, Z, V, Y, Tryd.td3]; refine aa _ ?_; clear aa K0; simp only [put, app, af, aj, zE, zS, E])
  (refine aG rfl fun K0 aa => ?_; simp only [zE, op1, ev, lkp, am, ak, aS, zG, Ty.dflt, Ty.size, Nat.mul_one, ne_eq, not_false_eq_true, Int.natCast_one, Int.mul_one, reduceCtorEq, J, E, U, Z, V, Y, Tryd.el25, Tryd.td25]; (repeat refine And.intro (by first | omega | assumption | exact rfl) ?_); refine aa _ ?_; clear aa K0; simp only [put, app, af, aj, zE, zS, E])
  (refine aG rfl fun K0 aa => ?_; simp only [zE, op1, ev, lkp, am, ak, aE, Nat.mul_one, aC, aD, acs, Ty.dflt, zG, az, reduceCtorEq, J, E, U, Z, V, Y, Tryd.td3]; (repeat refine And.intro (by first | omega | assumption | exact rfl) ?_); refine aa _ ?_; clear aa K0; simp only [put, app, af, aj, zE, zS, E])
  (refine aG rfl fun K0 aa => ?_; simp only [zE, op1, ev, lkp, am, ak, aS, zG, Ty.dflt, Ty.size, Nat.mul_one, ne_eq, not_false_eq_true, Int.natCast_one, Int.mul_one, reduceCtorEq, J, E, U, Z, V, Y, Tryd.el25, Tryd.td25]; (repeat refine And.intro (by first | omega | assumption | exact rfl) ?_); refine aa _ ?_; clear aa K0; simp only [put, app, af, aj, zE, zS, E])
  (refine aG rfl fun K0 aa => ?_; simp only [zE, op1, ev, lkp, am, ak, aE, Nat.mul_one, aC, aD, acs, Ty.dflt, zG, az, reduceCtorEq, J, E, U, Z, V, Y, Tryd.td3]; (repeat refine And.intro (by first | omega | assumption | exact rfl) ?_); refine aa _ ?_; clear aa K0; simp only [put, app, af, aj, zE, zS, E])
  (refine aG rfl fun K0 aa => ?_; simp only [zE, op1, ev, lkp, am, ak, aA, reduceCtorEq, J, E, U, Z, V, Y, Tryd.st48, Tryd.td3, Tryd.td48]; (repeat refine And.intro (by first | omega | assumption | exact rfl) ?_); refine aa _ ?_; clear aa K0; simp only [put, app, af, aj, zE, zS, E])
  (refine aG rfl fun K0 aa => ?_; simp only [zE, op1, ev, lkp, am, ak, aE, Nat.mul_one, aC, aD, acs, Ty.dflt, zG, az, reduceCtorEq, J, E, U, Z, V, Y, Tryd.el25, Tryd.td25]; (repeat refine And.intro (by first | omega | assumption | exact rfl) ?_); refine aa _ ?_; clear aa K0; simp only [put, app, af, aj, zE, zS, E])
  (refine aG rfl fun K0 aa => ?_; simp only [zE, op1, ev, lkp, am, ak, aA, reduceCtorEq, J, E, U, Z, V, Y, Tryd.st48, Tryd.td48]; (repeat refine And.intro (by first | omega | assumption | exact rfl) ?_); refine aa _ ?_; clear aa K0; simp only [put, app, af, aj, zE, zS, E])
  (refine aG rfl fun K0 aa => ?_; simp only [zE, op1, ev, lkp, am, ak, aA, reduceCtorEq, J, E, U, Z, V, Y, Tryd.st24, Tryd.td2, Tryd.td24]; (repeat refine And.intro (by first | omega | assumption | exact rfl) ?_); refine aa _ ?_; clear aa K0; simp only [put, app, af, aj, zE, zS, E])
  (refine aG rfl fun K0 aa => ?_; simp only [zE, op1, ev, lkp, am, ak, aE, Nat.mul_one, aC, aD, acs, Ty.dflt, zG, az, reduceCtorEq, J, E, U, Z, V, Y, Tryd.el22, Tryd.td22]; (repeat refine And.intro (by first | omega | assumption | exact rfl) ?_); refine aa _ ?_; clear aa K0; simp only [put, app, af, aj, zE, zS, E])
  (refine aG rfl fun K0 aa => ?_; simp only [zE, op1, ev, lkp, am, ak, ev, reduceCtorEq, J, E, U, Z, V, Y, Tryd.td3]; refine aa _ ?_; clear aa K0; simp only [put, app, af, aj, zE, zS, E])
  (refine aG rfl fun K0 aa => ?_; simp only [zE, op1, ev, lkp, am, ak, aS, zG, Ty.dflt, Ty.size, Nat.mul_one, ne_eq, not_false_eq_true, Int.natCast_one, Int.mul_one, reduceCtorEq, J, E, U, Z, V, Y, Tryd.el22, Tryd.td22]; (repeat refine And.intro (by first | omega | assumption | exact rfl) ?_); refine aa _ ?_; clear aa K0; simp only [put, app, af, aj, zE, zS, E])
  (refine aG rfl fun K0 aa => ?_; simp only [zE, op1, ev, lkp, am, ak, aE, Nat.mul_one, aC, aD, acs, Ty.dflt, zG, az, reduceCtorEq, J, E, U, Z, V, Y, Tryd.el25, Tryd.td25]; (repeat refine And.intro (by first | omega | assumption | exact rfl) ?_); refine aa _ ?_; clear aa K0; simp only [put, app, af, aj, zE, zS, E])
  (refine aG rfl fun K0 aa => ?_; simp only [zE, op1, ev, lkp, am, ak, ev, reduceCtorEq, J, E, U, Z, V, Y, Tryd.td3]; refine aa _ ?_; clear aa K0; simp only [put, app, af, aj, zE, zS, E])
  (refine aG rfl fun K0 aa => ?_; simp only [zE, op1, ev, lkp, am, ak, aS, zG, Ty.dflt, Ty.size, Nat.mul_one, ne_eq, not_false_eq_true, Int.natCast_one, Int.mul_one, reduceCtorEq, J, E, U, Z, V, Y, Tryd.el25, Tryd.td25]; (repeat refine And.intro (by first | omega | assumption | exact rfl) ?_); refine aa _ ?_; clear aa K0; simp only [put, app, af, aj, zE, zS, E])
  (refine aG rfl fun K0 aa => ?_; simp only [zE, op1, ev, lkp, am, ak, aE, Nat.mul_one, aC, aD, acs, Ty.dflt, zG, az, reduceCtorEq, J, E, U, Z, V, Y, Tryd.td3]; (repeat refine And.intro (by first | omega | assumption | exact rfl) ?_); refine aa _ ?_; clear aa K0; simp only [put, app, af, aj, zE, zS, E])
  (refine aG rfl fun K0 aa => ?_; simp only [zE, op1, ev, lkp, am, ak, aS, zG, Ty.dflt, Ty.size, Nat.mul_one, ne_eq, not_false_eq_true, Int.natCast_one, Int.mul_one, reduceCtorEq, J, E, U, Z, V, Y, Tryd.el25, Tryd.td25]; (repeat refine And.intro (by first | omega | assumption | exact rfl) ?_); refine aa _ ?_; clear aa K0; simp only [put, app, af, aj, zE, zS, E])
  (refine aG rfl fun K0 aa => ?_; simp only [zE, op1, ev, lkp, am, ak, aE, Nat.mul_one, aC, aD, acs, Ty.dflt, zG, az, reduceCtorEq, J, E, U, Z, V, Y, Tryd.td3]; (repeat refine And.intro (by first | omega | assumption | exact rfl) ?_); refine aa _ ?_; clear aa K0; simp only [put, app, af, aj, zE, zS, E])
  (refine aG rfl fun K0 aa => ?_; simp only [zE, op1, ev, lkp, am, ak, aJ, aK, aI, ay, aH, aX, reduceCtorEq, J, E, U, Z, V, Y, Tryd.td3, Tryd.td4]; (repeat refine And.intro (by first | omega | assumption | exact rfl) ?_); refine aa _ ?_; clear aa K0; simp only [put, app, af, aj, zE, zS, E])
  (refine ag rfl fun K0 aa => ?_; simp only [zE, op1, ev, lkp, am, ak, bU, reduceCtorEq, J, E, U, Z, V, Y, Tryd.td4]; refine aa _ ?_; clear aa K0; simp only [put, app, af, aj, zE, zS, E])
  refine aq ?_
  refine ⟨by simp only [ad, lkp, zE, reduceCtorEq, J, ae, E]; exact rfl, rfl, ?_, rfl⟩; (repeat refine bo rfl ?_); exact bY (by exact rfl) hq3
 case b3 => exact bV (by first | rfl | (simp [cD]; done) | decide)
 simp only [bM, bB]
 (refine ag rfl fun K0 aa => ?_; simp only [zE, op1, ev, lkp, am, ak, ev, reduceCtorEq, J, E, U, Z, V, Y, Tryd.td4]; refine aa _ ?_; clear aa K0; simp only [put, app, af, aj, zE, zS, E])
 refine aq ?_
 refine ⟨by kernel_rfl, ?_⟩
 refine hK2 _ ?_; clear hK2; refine ai [0, 1, 2, 3, 4, 8] ?_; simp only [ad, lkp, zE, reduceCtorEq, J, ae, E]
 refine aU ?_
 refine ⟨by first | exact .inl rfl | exact .inr rfl, _, rfl, ?_⟩; simp only [fzV, fz1, fzC, List.map_cons, List.map_nil, ad, lkp, zE, reduceCtorEq, J, ae, E]
 refine VLE.of_eq ?_
 rfl
end Go.Proofs.YtceafldjjedhcaaDoor
namespace Go.Proofs.YtceafldjjedhcaaDoor
open Go Go.AV
open Nat renaming reduceEqDiff → J, reduceAdd → E, reduceLeDiff → U, reduceLT → Z, reduceMul → V, reduceSub → Y
open List renaming set_cons_zero → aw, set_cons_succ → au
set_option maxRecDepth 100000 in
theorem ul (m : Mly) (s : Int) (c d : Nat) (hm : MOK m) (h0 : 0 ≤ s ∧ s < m.nx.length) (hc : (c : Int) < m.inp) (hd : (d : Int) < m.inp) : cq Tryd.prog 29 [.one (.int .i64 s), .one (.pat (.pair (.pair (.int .i64) (.pair (.int .i64) (.pair (.list (.list (.int .i64))) (.pair (.list (.list (.int .i64))) .unit)))) (.pair (.list (.int .i64)) (.pair (.list (.list (.int .i64))) (.pair (.list (.int .i64)) .unit)))) ((m.inp, (m.st, (m.nx, (m.ot, ())))), (cE m.exR, (dX m.exR, (m.eqc, ())))) 0), .one (.pat (.int .i64) (c : Int) 0), .one (.pat (.int .i64) (d : Int) 0)] (.one (.bool (!i3 m s c d))) := by
 refine bt Tryd.func29 rfl (by kernel_rfl) (Nat.le_of_ble_eq_true rfl) rfl fun C hP hN hB => ?_
 replace hN : C.N = 12 := hN
 simp only [ae, E]
 refine ah fun K1 hK1 => ?_
 refine ao hP hN rfl ?_
 (refine ag rfl fun K0 aa => ?_; simp only [zE, op1, ev, lkp, am, ak, ev, reduceCtorEq, J, E, U, Z, V, Y, Tryd.td4]; refine aa _ ?_; clear aa K0; simp only [put, app, af, aj, zE, zS, E])
 refine aq ?_
 refine hK1 _ ?_; clear hK1; refine ai [0, 1, 2, 3, 5] ?_; simp only [ad, lkp, zE, reduceCtorEq, J, ae, E]
 refine ah fun K2 hK2 => ?_
 refine ao hP hN rfl ?_
 iterate 4 (refine ag rfl fun K0 aa => ?_; simp only [zE, op1, ev, lkp, am, ak, aE, Nat.mul_one, aC, aD, acs, Ty.dflt, zG, az, reduceCtorEq, J, E, U, Z, V, Y, Tryd.st48, Tryd.td3, Tryd.td48]; (repeat refine And.intro (by first | omega | assumption | exact rfl) ?_); refine aa _ ?_; clear aa K0; simp only [put, app, af, aj, zE, zS, E])
 refine ag rfl fun K0 aa => ?_
 refine aW (h := aF (nq m m.exR s c d hm h0 hc hd)) rfl rfl (by first | exact rfl | (simp only [ev, ad, lkp, zE, reduceCtorEq, J, ae, E]; exact rfl)) (by simp only [zE, zG, op1, ev, lkp, am, ak, ax, acs, bf, mv1, mvC, Ty.dflt, reduceCtorEq, J, E, U, Z, V, Y]) ?_
 refine aa _ ?_; clear aa K0; simp only [put, app, af, aj, zE, zS, E]
 iterate 2 (refine ag rfl fun K0 aa => ?_; simp only [zE, op1, ev, lkp, am, ak, fw, reduceCtorEq, J, E, U, Z, V, Y, Tryd.td4]; (repeat refine And.intro (by first | omega | assumption | exact rfl) ?_); refine aa _ ?_; clear aa K0; simp only [put, app, af, aj, zE, zS, E])
 refine aq ?_
 refine hK2 _ ?_; clear hK2; refine ai [0, 1, 2, 3, 5] ?_; simp only [ad, lkp, zE, reduceCtorEq, J, ae, E]
 refine aU ?_
 refine ⟨by first | exact .inl rfl | exact .inr rfl, _, rfl, ?_⟩; simp only [fzV, fz1, fzC, List.map_cons, List.map_nil, ad, lkp, zE, reduceCtorEq, J, ae, E]
 refine VLE.of_eq ?_
 rfl
end Go.Proofs.YtceafldjjedhcaaDoor
namespace Go.Proofs.YtceafldjjedhcaaDoor
open Go Go.AV
open Nat renaming reduceEqDiff → J, reduceAdd → E, reduceLeDiff → U, reduceLT → Z, reduceMul → V, reduceSub → Y
open List renaming set_cons_zero → aw, set_cons_succ → au
set_option maxRecDepth 100000 in
theorem wi (m : Mly) (c d : Nat) (hm : MOK m) (hc : (c : Int) < m.inp) (hd : (d : Int) < m.inp) : cq Tryd.prog 27 [.one (.int .i64 (c : Int)), .one (.int .i64 (d : Int)), .one (.pat (.pair (.pair (.int .i64) (.pair (.int .i64) (.pair (.list (.list (.int .i64))) (.pair (.list (.list (.int .i64))) .unit)))) (.pair (.list (.int .i64)) (.pair (.list (.list (.int .i64))) (.pair (.list (.int .i64)) .unit)))) ((m.inp, (m.st, (m.nx, (m.ot, ())))), (cE m.exR, (dX m.exR, (m.eqc, ())))) 0)] (.one (.bool (o5 m c d))) := by
 refine bt Tryd.func27 rfl (by kernel_rfl) (Nat.le_of_ble_eq_true rfl) rfl fun C hP hN hB => ?_
 replace hN : C.N = 11 := hN
 simp only [ae, E]
 refine ah fun K1 hK1 => ?_
 refine ao hP hN rfl ?_
 iterate 3 (refine ag rfl fun K0 aa => ?_; simp only [zE, op1, ev, lkp, am, ak, dn, ax, reduceCtorEq, J, E, U, Z, V, Y, Tryd.td3, Tryd.td4]; (repeat refine And.intro (by first | omega | assumption | exact rfl) ?_); refine aa _ ?_; clear aa K0; simp only [put, app, af, aj, zE, zS, E])
 refine aq ?_
 refine hK1 _ ?_; clear hK1; refine ai [0, 1, 2, 3, 4, 5] ?_; simp only [ad, lkp, zE, reduceCtorEq, J, ae, E]
 refine ah fun K2 hK2 => ?_
 refine dO 0 (.int .i64) rfl rfl ?_; simp only [List.map_cons, List.map_nil, shV, if_true, zS, if_false, eq_self, J, reduceCtorEq, Nat.one_ne_zero, Nat.zero_ne_one]
 refine dO 1 (.int .i64) rfl rfl ?_; simp only [List.map_cons, List.map_nil, shV, if_true, zS, if_false, eq_self, J, reduceCtorEq, Nat.one_ne_zero, Nat.zero_ne_one]
 have hwx := iy hm
 refine ao hP hN rfl ?_
 iterate 3 (refine ag rfl fun K0 aa => ?_; simp only [zE, op1, ev, lkp, am, ak, aA, aE, Nat.mul_one, aC, aD, acs, Ty.dflt, zG, az, eH, fA, jq, reduceCtorEq, J, E, U, Z, V, Y, Tryd.el25, Tryd.st48, Tryd.td1, Tryd.td25, Tryd.td48, Tryd.td75]; (repeat refine And.intro (by first | omega | assumption | exact rfl) ?_); (first | refine aa _ ?_ | refine Or.inl (aa _ ?_)); clear aa K0; simp only [put, app, af, aj, zE, zS, E])
 refine ag rfl fun K0 aa => ?_
 refine aW (h := aF (vR (cE m.exR) 29 [.pat (.pair (.pair (.int .i64) (.pair (.int .i64) (.pair (.list (.list (.int .i64))) (.pair (.list (.list (.int .i64))) .unit)))) (.pair (.list (.int .i64)) (.pair (.list (.list (.int .i64))) (.pair (.list (.int .i64)) .unit)))) ((m.inp, (m.st, (m.nx, (m.ot, ())))), (cE m.exR, (dX m.exR, (m.eqc, ())))), .pat (.int .i64) (c : Int), .pat (.int .i64) (d : Int)] (fun s => !i3 m s c d) rfl (fun k hk => ul m ((cE m.exR).getD k 0) c d hm (hwx.rs.at_ hk) hc hd))) rfl rfl (by first | exact rfl | (simp only [ev, ad, lkp, zE, reduceCtorEq, J, ae, E]; exact rfl)) (by simp only [zE, zG, op1, ev, lkp, am, ak, ax, acs, bf, mv1, mvC, Ty.dflt, reduceCtorEq, J, E, U, Z, V, Y]) ?_
 refine aa _ ?_; clear aa K0; simp only [put, app, af, aj, zE, zS, E]
 iterate 2 (refine ag rfl fun K0 aa => ?_; simp only [zE, op1, ev, lkp, am, ak, fw, reduceCtorEq, J, E, U, Z, V, Y, Tryd.td4]; (repeat refine And.intro (by first | omega | assumption | exact rfl) ?_); refine aa _ ?_; clear aa K0; simp only [put, app, af, aj, zE, zS, E])
 refine aq ?_
 refine hK2 _ ?_; clear hK2; refine ai [0, 1, 2, 3, 4, 5] ?_; simp only [ad, lkp, zE, reduceCtorEq, J, ae, E]
 refine aU ?_
 refine ⟨by first | exact .inl rfl | exact .inr rfl, _, rfl, ?_⟩; simp only [fzV, fz1, fzC, List.map_cons, List.map_nil, ad, lkp, zE, reduceCtorEq, J, ae, E]
 refine VLE.of_eq ?_
 rfl
end Go.Proofs.YtceafldjjedhcaaDoor
namespace Go.Proofs.YtceafldjjedhcaaDoor
open Go Go.AV
open Nat renaming reduceEqDiff → J, reduceAdd → E, reduceLeDiff → U, reduceLT → Z, reduceMul → V, reduceSub → Y
open List renaming set_cons_zero → aw, set_cons_succ → au
set_option maxRecDepth 100000 in
theorem wC (m : Mly) : cq Tryd.prog 11 [m.av] (.tup [.one (.list (.int .i64) (fR m)), .one (.int .i64 (lM m)), .one (.int .i64 (bj m))]) := by
 refine bt Tryd.func11 rfl (by kernel_rfl) (Nat.le_of_ble_eq_true rfl) rfl fun C hP hN hB => ?_
 replace hN : C.N = 25 := hN
 simp only [ae, E]
 refine ah fun K1 hK1 => ?_
 refine ao hP hN rfl ?_
 iterate 4 (refine ag rfl fun K0 aa => ?_; simp only [zE, op1, ev, lkp, am, ak, dn, ax, reduceCtorEq, J, E, U, Z, V, Y, Tryd.el25, Tryd.st24, Tryd.td24, Tryd.td25, Tryd.td28, Tryd.td3, Mly.av]; (repeat refine And.intro (by first | omega | assumption | exact rfl) ?_); refine aa _ ?_; clear aa K0; simp only [put, app, af, aj, zE, zS, E])
 refine aq ?_
 refine hK1 _ ?_; clear hK1; refine ai [0, 1, 2, 3, 4] ?_; simp only [ad, lkp, zE, reduceCtorEq, J, ae, E]
 refine ah fun K2 hK2 => ?_
 refine ah fun K3 hK3 => ?_
 refine ao hP hN rfl ?_
 (refine ag rfl fun K0 aa => ?_; simp only [zE, op1, ev, lkp, am, ak, aE, Nat.mul_one, aC, aD, acs, Ty.dflt, zG, az, reduceCtorEq, J, E, U, Z, V, Y, Tryd.st24, Tryd.td24, Mly.av]; (repeat refine And.intro (by first | omega | assumption | exact rfl) ?_); refine aa _ ?_; clear aa K0; simp only [put, app, af, aj, zE, zS, E])
 refine ag rfl fun K0 aa => ?_
 refine aW (h := aF (iF m)) rfl rfl (by first | exact rfl | (simp only [ev, ad, lkp, zE, reduceCtorEq, J, ae, E]; exact rfl)) (by simp only [zE, zG, op1, ev, lkp, am, ak, ax, acs, bf, mv1, mvC, Ty.dflt, reduceCtorEq, J, E, U, Z, V, Y, Mly.av]) ?_
 refine aa _ ?_; clear aa K0; simp only [put, app, af, aj, zE, zS, E]
 (refine ag rfl fun K0 aa => ?_; simp only [zE, op1, ev, lkp, am, ak, ev, reduceCtorEq, J, E, U, Z, V, Y, Tryd.td28, Mly.av]; refine aa _ ?_; clear aa K0; simp only [put, app, af, aj, zE, zS, E])
 refine aq ?_
 refine hK3 _ ?_; clear hK3; refine ai [0, 1, 2, 3, 4, 5] ?_; simp only [ad, lkp, zE, reduceCtorEq, J, ae, E]
 refine ah fun K4 hK4 => ?_
 refine ao hP hN rfl ?_
 iterate 2 (refine ag rfl fun K0 aa => ?_; simp only [zE, op1, ev, lkp, am, ak, aJ, aK, aI, ay, aH, aX, reduceCtorEq, J, E, U, Z, V, Y, Tryd.td28, Tryd.td4, Mly.av]; (repeat refine And.intro (by first | omega | assumption | exact rfl) ?_); refine aa _ ?_; clear aa K0; simp only [put, app, af, aj, zE, zS, E])
 refine aq ?_
 refine hK4 _ ?_; clear hK4; refine ai [0, 1, 2, 3, 4, 5, 12] ?_; simp only [ad, lkp, zE, reduceCtorEq, J, ae, E]
 refine aL (by simp only [ev, ad, lkp, zE, reduceCtorEq, J, ae, E]; exact rfl) (fun hc5 => ?_) (fun hc5 => ?_)
 ·(try simp only [zB, reduceCtorEq] at hc5)
  refine ah fun K6 hK6 => ?_
  refine ao hP hN rfl ?_
  iterate 4 (refine ag rfl fun K0 aa => ?_; simp only [zE, op1, ev, lkp, am, ak, ev, reduceCtorEq, J, E, U, Z, V, Y, Tryd.el25, Tryd.td25, Tryd.td28, Tryd.td3, Mly.av]; refine aa _ ?_; clear aa K0; simp only [put, app, af, aj, zE, zS, E])
  refine aq ?_
  refine hK6 _ ?_; clear hK6; refine ai [0, 1, 2, 3, 4, 5, 12] ?_; simp only [ad, lkp, zE, reduceCtorEq, J, ae, E]
  refine aU ?_
  refine ⟨by first | exact .inl rfl | exact .inr rfl, _, rfl, ?_⟩; simp only [fzV, fz1, fzC, List.map_cons, List.map_nil, ad, lkp, zE, reduceCtorEq, J, ae, E, Mly.av]
  unfold fR lM
  first
  | (rw [if_neg ‹¬bj m = 0›, if_neg ‹¬bj m = 0›]; exact br ⟨aB (aQ rfl), aB (.refl _), aB (.refl _), trivial⟩)
  | (rw [if_pos ‹bj m = 0›, if_pos ‹bj m = 0›, ‹bj m = 0›]; exact VLE.of_eq rfl)
 ·(try simp only [zB, reduceCtorEq] at hc5)
  refine aT ?_
  refine hK2 _ ?_; clear hK2; refine ai [0, 1, 2, 3, 4, 5, 12] ?_; simp only [ad, lkp, zE, reduceCtorEq, J, ae, E]
  refine ah fun K7 hK7 => ?_
  refine ao hP hN rfl ?_
  (refine ag rfl fun K0 aa => ?_; simp only [zE, op1, ev, lkp, am, ak, aE, Nat.mul_one, aC, aD, acs, Ty.dflt, zG, az, reduceCtorEq, J, E, U, Z, V, Y, Tryd.st24, Tryd.td24, Mly.av]; (repeat refine And.intro (by first | omega | assumption | exact rfl) ?_); refine aa _ ?_; clear aa K0; simp only [put, app, af, aj, zE, zS, E])
  refine ag rfl fun K0 aa => ?_
  refine aW (h := aF (je m (by assumption))) rfl rfl (by first | exact rfl | (simp only [ev, ad, lkp, zE, reduceCtorEq, J, ae, E]; exact rfl)) (by simp only [zE, zG, op1, ev, lkp, am, ak, ax, acs, bf, mv1, mvC, Ty.dflt, reduceCtorEq, J, E, U, Z, V, Y, Mly.av]) ?_
  refine aa _ ?_; clear aa K0; simp only [put, app, af, aj, zE, zS, E]
  iterate 2 (refine ag rfl fun K0 aa => ?_; simp only [zE, op1, ev, lkp, am, ak, cC, bJ, Nat.mul_one, ax, aR, aM, acs, Ty.size, Ty.dflt, zG, reduceCtorEq, J, E, U, Z, V, Y, Tryd.st48, Tryd.td48, Mly.av]; (repeat refine And.intro (by first | omega | assumption | exact rfl) ?_); (first | refine aa _ ?_ | refine Or.inl (aa _ ?_)); clear aa K0; simp only [put, app, af, aj, zE, zS, E])
  refine aq ?_
  refine hK7 _ ?_; clear hK7; refine ai [0, 1, 2, 3, 4, 5, 6, 12] ?_; simp only [ad, lkp, zE, reduceCtorEq, J, ae, E]
  refine ah fun K8 hK8 => ?_
  refine dO 1 (.pair (.pair (.int .i64) (.pair (.int .i64) (.pair (.list (.list (.int .i64))) (.pair (.list (.list (.int .i64))) .unit)))) (.pair (.list (.int .i64)) (.pair (.list (.list (.int .i64))) (.pair (.list (.int .i64)) .unit)))) rfl rfl ?_; simp only [List.map_cons, List.map_nil, shV, if_true, zS, if_false, eq_self, J, reduceCtorEq, Nat.one_ne_zero, Nat.zero_ne_one]
  have hm2 := fX (m := m) (by assumption); have hi1 := hm2.i1; have hi2 := hm2.i2; have hin : m.inp = ((m.inp.toNat : Nat) : Int) := by omega
  refine ao hP hN rfl ?_
  iterate 3 (refine ag rfl fun K0 aa => ?_; simp only [zE, op1, ev, lkp, am, ak, aA, aE, Nat.mul_one, aC, aD, acs, Ty.dflt, zG, az, eH, fA, jq, reduceCtorEq, J, E, U, Z, V, Y, Tryd.st24, Tryd.td24, Tryd.td3, Tryd.td71, Mly.av]; (repeat refine And.intro (by first | omega | assumption | exact rfl) ?_); (first | refine aa _ ?_ | refine Or.inl (aa _ ?_)); clear aa K0; simp only [put, app, af, aj, zE, zS, E])
  refine ag rfl fun K0 aa => ?_
  refine aW (h := aF (t8 m m.inp.toNat 27 [⟨(.pair (.pair (.int .i64) (.pair (.int .i64) (.pair (.list (.list (.int .i64))) (.pair (.list (.list (.int .i64))) .unit)))) (.pair (.list (.int .i64)) (.pair (.list (.list (.int .i64))) (.pair (.list (.int .i64)) .unit)))), ((m.inp, (m.st, (m.nx, (m.ot, ())))), (cE m.exR, (dX m.exR, (m.eqc, ()))))⟩] (o5 m) (by omega) hin (fun d c hd hc => wi m d c hm2 (by omega) (by omega)))) rfl rfl (by first | exact rfl | (simp only [ev, ad, lkp, zE, reduceCtorEq, J, ae, E]; exact rfl)) (by simp only [zE, zG, op1, ev, lkp, am, ak, ax, acs, bf, mv1, mvC, Ty.dflt, reduceCtorEq, J, E, U, Z, V, Y, Mly.av]) ?_
  refine aa _ ?_; clear aa K0; simp only [put, app, af, aj, zE, zS, E]
  iterate 5 (refine ag rfl fun K0 aa => ?_; simp only [zE, op1, ev, lkp, am, ak, bS, reduceCtorEq, J, E, U, Z, V, Y, Tryd.el25, Tryd.td1, Tryd.td25, Tryd.td3, Mly.av]; refine aa _ ?_; clear aa K0; simp only [put, app, af, aj, zE, zS, E])
  refine aq ?_
  refine hK8 _ ?_; clear hK8; refine ai [0, 1, 2, 3, 4, 5, 6, 7, 8, 12] ?_; simp only [ad, lkp, zE, reduceCtorEq, J, ae, E]
  refine ah fun K9 hK9 => ?_
  refine ao hP hN rfl ?_
  iterate 5 (refine ag rfl fun K0 aa => ?_; simp only [zE, op1, ev, lkp, am, ak, ev, reduceCtorEq, J, E, U, Z, V, Y, Tryd.el25, Tryd.td25, Tryd.td28, Tryd.td3, Mly.av]; refine aa _ ?_; clear aa K0; simp only [put, app, af, aj, zE, zS, E])
  refine aq ?_
  refine hK9 _ ?_; clear hK9; refine ai [0, 1, 2, 3, 4, 5, 6, 7, 8, 12] ?_; simp only [ad, lkp, zE, reduceCtorEq, J, ae, E]
  refine aU ?_
  refine ⟨by first | exact .inl rfl | exact .inr rfl, _, rfl, ?_⟩; simp only [fzV, fz1, fzC, List.map_cons, List.map_nil, ad, lkp, zE, reduceCtorEq, J, ae, E, Mly.av]
  unfold fR lM
  first
  | (rw [if_neg ‹¬bj m = 0›, if_neg ‹¬bj m = 0›]; exact br ⟨aB (aQ rfl), aB (.refl _), aB (.refl _), trivial⟩)
  | (rw [if_pos ‹bj m = 0›, if_pos ‹bj m = 0›, ‹bj m = 0›]; exact VLE.of_eq rfl)
end Go.Proofs.YtceafldjjedhcaaDoor
namespace Go.Proofs.YtceafldjjedhcaaDoor
open Go Go.AV
open Nat renaming reduceEqDiff → J, reduceAdd → E, reduceLeDiff → U, reduceLT → Z, reduceMul → V, reduceSub → Y
open List renaming set_cons_zero → aw, set_cons_succ → au
theorem xA : cq Tryd.prog 11 [d9.av] (.tup [.one (.list (.int .i64) [0, 1]), .one (.int .i64 2), .one (.int .i64 0)]) := by
  have h := wC d9
  rw [show fR d9 = [0, 1] by decide +kernel, show lM d9 = 2 by decide +kernel, show bj d9 = 0 by decide +kernel] at h
  exact h

end Go.Proofs.YtceafldjjedhcaaDoor
namespace Go.AV
open Nat renaming reduceEqDiff → J, reduceAdd → E, reduceLeDiff → U, reduceLT → Z, reduceMul → V, reduceSub → Y
open List renaming set_cons_zero → aw, set_cons_succ → au
/-plain-/
theorem rH {m : Mly} {cl : List Int} {s : Int} {c d : Nat} (h : ip m cl s c = some d) : c < d ∧ d < cl.length ∧ fL m cl s c d = true := by
  unfold ip at h
  have h1 := List.find?_some h
  have h2 : d < cl.length := by simpa using List.mem_of_find?_eq_some h
  simp only [Bool.and_eq_true, decide_eq_true_eq] at h1
  exact ⟨h1.1, h2, h1.2⟩
theorem jn {m : Mly} {cl : List Int} {p : Nat × Nat × Nat} (h : cZ m cl = some p) : (p.1 < m.exR.length ∧ p.2.1 < cl.length ∧ p.2.2 < cl.length) ∧ p.2.1 < p.2.2 ∧ fL m cl (m.exR.getD p.1 eX0).1 p.2.1 p.2.2 = true := by
  unfold cZ at h
  obtain ⟨i, hi, he⟩ := List.exists_of_findSome?_eq_some h
  cases hc : kU m cl (m.exR.getD i eX0).1 with
  | none => rw [hc] at he; cases he
  | some q =>
    rw [hc] at he
    simp only [Option.map_some, Option.some.injEq] at he
    subst he
    unfold kU at hc
    obtain ⟨c, hcm, hce⟩ := List.exists_of_findSome?_eq_some hc
    cases hd : ip m cl (m.exR.getD i eX0).1 c with
    | none => rw [hd] at hce; cases hce
    | some d =>
      rw [hd] at hce
      simp only [Option.map_some, Option.some.injEq] at hce
      subst hce
      obtain ⟨h1, h2, h3⟩ := rH hd
      exact ⟨⟨by simpa using hi, by simpa using hcm, h2⟩, h1, h3⟩
def nP (m : Mly) (cl : List Int) : List Int := if bE m cl = 0 then (match cZ m cl with | some p => (nmS (uQ m cl p) m.inp.toNat).1 | none => cl) else []
def eg (m : Mly) (cl : List Int) : Bool := if bE m cl = 0 then (cZ m cl).isSome else false
/-- The words of a witness. -/
def wTl (m : Mly) (p : Nat × Nat × Nat) : List Int := if m.out (m.exR.getD p.1 eX0).1 p.2.1 = m.out (m.exR.getD p.1 eX0).1 p.2.2 then (seS m m (m.nxt (m.exR.getD p.1 eX0).1 p.2.1) (m.nxt (m.exR.getD p.1 eX0).1 p.2.2)).getD [] else []
def wU (m : Mly) (cl : List Int) : List Int := if bE m cl = 0 then (match cZ m cl with | some p => (m.exR.getD p.1 eX0).2 ++ [(p.2.1 : Int)] ++ wTl m p | none => []) else []
def wV (m : Mly) (cl : List Int) : List Int := if bE m cl = 0 then (match cZ m cl with | some p => (m.exR.getD p.1 eX0).2 ++ [(p.2.2 : Int)] ++ wTl m p | none => []) else []
theorem uP (p : Nat × Nat × Nat) : f3 (some p) = ((p.1 : Int), (p.2.1 : Int), (p.2.2 : Int)) := rfl
theorem vx : f3 none = (0, 0, 0) := rfl
end Go.AV
namespace Go.Proofs.YtceafldjjedhcaaDoor
open Go Go.AV
open Nat renaming reduceEqDiff → J, reduceAdd → E, reduceLeDiff → U, reduceLT → Z, reduceMul → V, reduceSub → Y
open List renaming set_cons_zero → aw, set_cons_succ → au
set_option maxRecDepth 100000 in
theorem sS  : cq Tryd.prog 18 [.one .nils] (.one .nils) := by
 refine bt Tryd.func18 rfl (by kernel_rfl) (Nat.le_of_ble_eq_true rfl) rfl fun C hP hN hB => ?_
 replace hN : C.N = 8 := hN
 simp only [ae, E]
 refine ah fun K1 hK1 => ?_
 refine ao hP hN rfl ?_
 (refine ag rfl fun K0 aa => ?_; simp only [zE, op1, ev, lkp, am, ak, ev, reduceCtorEq, J, E, U, Z, V, Y, Tryd.el25, Tryd.td25]; refine aa _ ?_; clear aa K0; simp only [put, app, af, aj, zE, zS, E])
 refine aq ?_
 refine hK1 _ ?_; clear hK1; refine ai [0, 2] ?_; simp only [ad, lkp, zE, reduceCtorEq, J, ae, E]
 refine ah fun K2 hK2 => ?_
 refine ah fun K3 hK3 => ?_
 refine ao hP hN rfl ?_
 iterate 2 (refine ag rfl fun K0 aa => ?_; simp only [zE, op1, ev, lkp, am, ak, aJ, aK, aI, ay, aH, aX, reduceCtorEq, J, E, U, Z, V, Y, Tryd.el25, Tryd.td25, Tryd.td4]; (repeat refine And.intro (by first | omega | assumption | exact rfl) ?_); refine aa _ ?_; clear aa K0; simp only [put, app, af, aj, zE, zS, E])
 refine aq ?_
 refine hK3 _ ?_; clear hK3; refine ai [0, 2, 4] ?_; simp only [ad, lkp, zE, reduceCtorEq, J, ae, E]
 refine aL (by simp only [ev, ad, lkp, zE, reduceCtorEq, J, ae, E]; exact rfl) (fun hc4 => ?_) (fun hc4 => ?_)
 ·(try simp only [zB, reduceCtorEq] at hc4)
  refine ah fun K5 hK5 => ?_
  refine ao hP hN rfl ?_
  (refine ag rfl fun K0 aa => ?_; simp only [zE, op1, ev, lkp, am, ak, ev, reduceCtorEq, J, E, U, Z, V, Y, Tryd.el25, Tryd.td25]; refine aa _ ?_; clear aa K0; simp only [put, app, af, aj, zE, zS, E])
  refine aq ?_
  refine hK5 _ ?_; clear hK5; refine ai [0, 2, 4] ?_; simp only [ad, lkp, zE, reduceCtorEq, J, ae, E]
  refine aU ?_
  refine ⟨by first | exact .inl rfl | exact .inr rfl, _, rfl, ?_⟩; simp only [fzV, fz1, fzC, List.map_cons, List.map_nil, ad, lkp, zE, reduceCtorEq, J, ae, E]
  refine VLE.of_eq ?_
  rfl
 · exfalso; (try simp only [zB, reduceCtorEq] at hc4); all_goals (first | (cases hc4; done) | omega | (simp at hc4; done) | (simp_all; done))
end Go.Proofs.YtceafldjjedhcaaDoor
namespace Go.Proofs.YtceafldjjedhcaaDoor
open Go Go.AV
open Nat renaming reduceEqDiff → J, reduceAdd → E, reduceLeDiff → U, reduceLT → Z, reduceMul → V, reduceSub → Y
open List renaming set_cons_zero → aw, set_cons_succ → au
set_option maxRecDepth 100000 in
theorem wg  : cq Tryd.prog 18 [.one .emp] (.one (.list (.int .i64) [])) := by
 refine bt Tryd.func18 rfl (by kernel_rfl) (Nat.le_of_ble_eq_true rfl) rfl fun C hP hN hB => ?_
 replace hN : C.N = 8 := hN
 simp only [ae, E]
 refine ah fun K1 hK1 => ?_
 refine ao hP hN rfl ?_
 (refine ag rfl fun K0 aa => ?_; simp only [zE, op1, ev, lkp, am, ak, ev, reduceCtorEq, J, E, U, Z, V, Y, Tryd.el25, Tryd.td25]; refine aa _ ?_; clear aa K0; simp only [put, app, af, aj, zE, zS, E])
 refine aq ?_
 refine hK1 _ ?_; clear hK1; refine ai [0, 2] ?_; simp only [ad, lkp, zE, reduceCtorEq, J, ae, E]
 refine ah fun K2 hK2 => ?_
 refine ah fun K3 hK3 => ?_
 refine ao hP hN rfl ?_
 iterate 2 (refine ag rfl fun K0 aa => ?_; simp only [zE, op1, ev, lkp, am, ak, aJ, aK, aI, ay, aH, aX, reduceCtorEq, J, E, U, Z, V, Y, Tryd.el25, Tryd.td25, Tryd.td4]; (repeat refine And.intro (by first | omega | assumption | exact rfl) ?_); refine aa _ ?_; clear aa K0; simp only [put, app, af, aj, zE, zS, E])
 refine aq ?_
 refine hK3 _ ?_; clear hK3; refine ai [0, 2, 4] ?_; simp only [ad, lkp, zE, reduceCtorEq, J, ae, E]
 refine aL (by simp only [ev, ad, lkp, zE, reduceCtorEq, J, ae, E]; exact rfl) (fun hc4 => ?_) (fun hc4 => ?_)
 · exfalso; (try simp only [zB, reduceCtorEq] at hc4); all_goals (first | (cases hc4; done) | omega | (simp at hc4; done) | (simp_all; done))
 ·(try simp only [zB, reduceCtorEq] at hc4)
  refine aT ?_
  refine hK2 _ ?_; clear hK2; refine ai [0, 2, 4] ?_; simp only [ad, lkp, zE, reduceCtorEq, J, ae, E]
  refine ah fun K5 hK5 => ?_
  refine ao hP hN rfl ?_
  (refine ag rfl fun K0 aa => ?_; simp only [zE, op1, ev, lkp, am, ak, b0, bl, c8, rep, aM, aR, ax, Ty.size, reduceCtorEq, J, E, U, Z, V, Y, Tryd.el25, Tryd.td25]; (repeat refine And.intro (by first | omega | assumption | exact rfl) ?_); refine Or.inr (Or.inl (aa _ ?_)); clear aa K0; simp only [put, app, af, aj, zE, zS, E])
  iterate 3 (refine ag rfl fun K0 aa => ?_; simp only [zE, op1, ev, lkp, am, ak, aP, bT, bC, bu, bv, bP, Nat.div_one, aV, bz, Ty.size, aM, dite_true, reduceCtorEq, J, E, U, Z, V, Y, Tryd.el25, Tryd.td25]; (repeat refine And.intro (by first | omega | assumption | exact rfl) ?_); (first | refine aa _ ?_ | refine Or.inl (aa _ ?_)); clear aa K0; simp only [put, app, af, aj, zE, zS, E])
  refine aq ?_
  refine hK5 _ ?_; clear hK5; refine ai [0, 2, 4] ?_; simp only [ad, lkp, zE, reduceCtorEq, J, ae, E]
  refine aU ?_
  refine ⟨by first | exact .inl rfl | exact .inr rfl, _, rfl, ?_⟩; simp only [fzV, fz1, fzC, List.map_cons, List.map_nil, ad, lkp, zE, reduceCtorEq, J, ae, E]
  refine VLE.of_eq ?_
  rfl
end Go.Proofs.YtceafldjjedhcaaDoor
namespace Go.Proofs.YtceafldjjedhcaaDoor
open Go Go.AV
open Nat renaming reduceEqDiff → J, reduceAdd → E, reduceLeDiff → U, reduceLT → Z, reduceMul → V, reduceSub → Y
open List renaming set_cons_zero → aw, set_cons_succ → au
set_option maxRecDepth 100000 in
theorem wz (xs : List Int) (h0 : 0 < xs.length) (h1 : xs.length ≤ 10000000000000) : cq Tryd.prog 18 [.one (.list (.int .i64) xs)] (.one (.list (.int .i64) xs)) := by
 refine bt Tryd.func18 rfl (by kernel_rfl) (Nat.le_of_ble_eq_true rfl) rfl fun C hP hN hB => ?_
 replace hN : C.N = 8 := hN
 simp only [ae, E]
 refine ah fun K1 hK1 => ?_
 refine ao hP hN rfl ?_
 (refine ag rfl fun K0 aa => ?_; simp only [zE, op1, ev, lkp, am, ak, ev, reduceCtorEq, J, E, U, Z, V, Y, Tryd.el25, Tryd.td25]; refine aa _ ?_; clear aa K0; simp only [put, app, af, aj, zE, zS, E])
 refine aq ?_
 refine hK1 _ ?_; clear hK1; refine ai [0, 2] ?_; simp only [ad, lkp, zE, reduceCtorEq, J, ae, E]
 refine ah fun K2 hK2 => ?_
 refine ah fun K3 hK3 => ?_
 refine ao hP hN rfl ?_
 iterate 2 (refine ag rfl fun K0 aa => ?_; simp only [zE, op1, ev, lkp, am, ak, aJ, aK, aI, ay, aH, aX, reduceCtorEq, J, E, U, Z, V, Y, Tryd.el25, Tryd.td25, Tryd.td4]; (repeat refine And.intro (by first | omega | assumption | exact rfl) ?_); refine aa _ ?_; clear aa K0; simp only [put, app, af, aj, zE, zS, E])
 refine aq ?_
 refine hK3 _ ?_; clear hK3; refine ai [0, 2, 4] ?_; simp only [ad, lkp, zE, reduceCtorEq, J, ae, E]
 refine aL (by simp only [ev, ad, lkp, zE, reduceCtorEq, J, ae, E]; exact rfl) (fun hc4 => ?_) (fun hc4 => ?_)
 · exfalso; (try simp only [zB, reduceCtorEq] at hc4); all_goals (first | (cases hc4; done) | omega | (simp at hc4; done) | (simp_all; done))
 ·(try simp only [zB, reduceCtorEq] at hc4)
  refine aT ?_
  refine hK2 _ ?_; clear hK2; refine ai [0, 2, 4] ?_; simp only [ad, lkp, zE, reduceCtorEq, J, ae, E]
  refine ah fun K5 hK5 => ?_
  refine ao hP hN rfl ?_
  (refine ag rfl fun K0 aa => ?_; simp only [zE, op1, ev, lkp, am, ak, b0, bl, c8, rep, aM, aR, ax, Ty.size, reduceCtorEq, J, E, U, Z, V, Y, Tryd.el25, Tryd.td25]; (repeat refine And.intro (by first | omega | assumption | exact rfl) ?_); refine Or.inr (Or.inl (aa _ ?_)); clear aa K0; simp only [put, app, af, aj, zE, zS, E])
  iterate 3 (refine ag rfl fun K0 aa => ?_; simp only [zE, op1, ev, lkp, am, ak, aP, bT, bC, bu, bv, bP, Nat.div_one, aV, bz, Ty.size, aM, dite_true, reduceCtorEq, J, E, U, Z, V, Y, Tryd.el25, Tryd.td25]; (repeat refine And.intro (by first | omega | assumption | exact rfl) ?_); (first | refine aa _ ?_ | refine Or.inl (aa _ ?_)); clear aa K0; simp only [put, app, af, aj, zE, zS, E])
  refine aq ?_
  refine hK5 _ ?_; clear hK5; refine ai [0, 2, 4] ?_; simp only [ad, lkp, zE, reduceCtorEq, J, ae, E]
  refine aU ?_
  refine ⟨by first | exact .inl rfl | exact .inr rfl, _, rfl, ?_⟩; simp only [fzV, fz1, fzC, List.map_cons, List.map_nil, ad, lkp, zE, reduceCtorEq, J, ae, E]
  refine VLE.of_eq ?_
  rfl
end Go.Proofs.YtceafldjjedhcaaDoor
namespace Go.Proofs.YtceafldjjedhcaaDoor
open Go Go.AV
open Nat renaming reduceEqDiff → J, reduceAdd → E, reduceLeDiff → U, reduceLT → Z, reduceMul → V, reduceSub → Y
open List renaming set_cons_zero → aw, set_cons_succ → au
theorem n9 (xs : List Int) (h : xs.length ≤ 10000000000000) : cq Tryd.prog 18 [.one (.list (.int .i64) xs)] (.one (.list (.int .i64) xs)) :=
  qZ (t := .int .i64) (fun e => rt sS (vL (aQ e))) (fun e => by subst e; exact wg) (fun h0 => wz xs h0 h) sS.1

end Go.Proofs.YtceafldjjedhcaaDoor
namespace Go.Proofs.YtceafldjjedhcaaDoor
open Go Go.AV
open Nat renaming reduceEqDiff → J, reduceAdd → E, reduceLeDiff → U, reduceLT → Z, reduceMul → V, reduceSub → Y
open List renaming set_cons_zero → aw, set_cons_succ → au
set_option maxRecDepth 100000 in
theorem rb (cl : List Int) : cq Tryd.prog 7 [.one (.list (.int .i64) cl)] (.tup [.agg [.int .i64 (if df cl = 0 then (cl.length : Int) else 0), .int .i64 (fV cl), .int .i64 0, .list (.list (.int .i64)) (if df cl = 0 then [List.replicate cl.length 0] else []), .list (.list (.int .i64)) (if df cl = 0 then [cl] else [])], .one (.int .i64 (df cl))]) := by
 refine bt Tryd.func7 rfl (by kernel_rfl) (Nat.le_of_ble_eq_true rfl) rfl fun C hP hN hB => ?_
 replace hN : C.N = 46 := hN
 simp only [ae, E]
 refine ah fun K1 hK1 => ?_
 refine ao hP hN rfl ?_
 iterate 2 (refine ag rfl fun K0 aa => ?_; simp only [zE, op1, ev, lkp, am, ak, cC, reduceCtorEq, J, E, U, Z, V, Y, Tryd.st32, Tryd.td28, Tryd.td32]; (repeat refine And.intro (by first | omega | assumption | exact rfl) ?_); (first | refine aa _ ?_ | refine Or.inl (aa _ ?_)); clear aa K0; simp only [put, app, af, aj, zE, zS, E])
 refine aq ?_
 refine hK1 _ ?_; clear hK1; refine ai [0, 2, 3] ?_; simp only [ad, lkp, zE, reduceCtorEq, J, ae, E]
 refine ah fun K2 hK2 => ?_
 refine ah fun K3 hK3 => ?_
 refine ao hP hN rfl ?_
 iterate 3 (refine ag rfl fun K0 aa => ?_; simp only [zE, op1, ev, lkp, am, ak, aP, bT, bC, bu, bv, bP, Nat.div_one, aV, bz, Ty.size, aM, dite_true, aJ, aK, aI, ay, aH, aX, reduceCtorEq, J, E, U, Z, V, Y, Tryd.el25, Tryd.td25, Tryd.td3, Tryd.td4]; (repeat refine And.intro (by first | omega | assumption | exact rfl) ?_); (first | refine aa _ ?_ | refine Or.inl (aa _ ?_)); clear aa K0; simp only [put, app, af, aj, zE, zS, E])
 (refine ag rfl fun K0 aa => ?_; simp only [zE, op1, ev, lkp, am, ak, ev, reduceCtorEq, J, E, U, Z, V, Y, Tryd.td4]; refine aa _ ?_; clear aa K0; simp only [put, app, af, aj, zE, zS, E])
 refine' bn (want := false) 3 rfl (m := 10) (by simp only [ad, lkp, zE, reduceCtorEq, J, ae, E]; exact rfl) (by kernel_rfl) rfl rfl rfl rfl rfl (fun hg4 => ?a4) ?b4 ?c4
 case a4 =>
  have hq4 := hg4; (try simp only [zB, reduceCtorEq] at hg4); simp only [List.take_succ_cons, List.take_zero, List.cons_append, List.nil_append]
  (refine aG rfl fun K0 aa => ?_; simp only [zE, op1, ev, lkp, am, ak, ev, reduceCtorEq, J, E, U, Z, V, Y, Tryd.el25, Tryd.td25]; refine aa _ ?_; clear aa K0; simp only [put, app, af, aj, zE, zS, E])
  (refine aG rfl fun K0 aa => ?_; simp only [zE, op1, ev, lkp, am, ak, aP, bT, bC, bu, bv, bP, Nat.div_one, aV, bz, Ty.size, aM, dite_true, reduceCtorEq, J, E, U, Z, V, Y, Tryd.el25, Tryd.td25, Tryd.td3]; (repeat refine And.intro (by first | omega | assumption | exact rfl) ?_); (first | refine aa _ ?_ | refine Or.inl (aa _ ?_)); clear aa K0; simp only [put, app, af, aj, zE, zS, E])
  (refine aG rfl fun K0 aa => ?_; simp only [zE, op1, ev, lkp, am, ak, aJ, aK, aI, ay, aH, aX, reduceCtorEq, J, E, U, Z, V, Y, Tryd.td3, Tryd.td4]; (repeat refine And.intro (by first | omega | assumption | exact rfl) ?_); refine aa _ ?_; clear aa K0; simp only [put, app, af, aj, zE, zS, E])
  (refine ag rfl fun K0 aa => ?_; simp only [zE, op1, ev, lkp, am, ak, bU, reduceCtorEq, J, E, U, Z, V, Y, Tryd.td4]; refine aa _ ?_; clear aa K0; simp only [put, app, af, aj, zE, zS, E])
  refine aq ?_
  refine ⟨by simp only [ad, lkp, zE, reduceCtorEq, J, ae, E]; exact rfl, rfl, ?_, rfl⟩; (repeat refine bo rfl ?_); exact bY (by exact rfl) hq4
 case b4 => exact bV (by first | rfl | (simp [cD]; done) | decide)
 simp only [bM, bB]
 refine aq ?_
 refine hK3 _ ?_; clear hK3; refine ai [0, 2, 3, 14] ?_; simp only [ad, lkp, zE, reduceCtorEq, J, ae, E]
 refine aL (by simp only [ev, ad, lkp, zE, reduceCtorEq, J, ae, E]; exact rfl) (fun hc5 => ?_) (fun hc5 => ?_)
 ·(try simp only [zB, reduceCtorEq] at hc5)
  refine ah fun K6 hK6 => ?_
  refine ao hP hN rfl ?_
  iterate 3 (refine ag rfl fun K0 aa => ?_; simp only [zE, op1, ev, lkp, am, ak, cF, bl, aR, ax, bJ, Nat.mul_one, aM, acs, Ty.size, Ty.dflt, zG, reduceCtorEq, J, E, U, Z, V, Y, Tryd.st32, Tryd.td28, Tryd.td32]; (repeat refine And.intro (by first | omega | assumption | exact rfl) ?_); (first | refine aa _ ?_ | refine Or.inl (aa _ ?_)); clear aa K0; simp only [put, app, af, aj, zE, zS, E])
  refine aq ?_
  refine hK6 _ ?_; clear hK6; refine ai [0, 2, 3, 14] ?_; simp only [ad, lkp, zE, reduceCtorEq, J, ae, E]
  refine aU ?_
  refine ⟨by first | exact .inl rfl | exact .inr rfl, _, rfl, ?_⟩; simp only [fzV, fz1, fzC, List.map_cons, List.map_nil, ad, lkp, zE, reduceCtorEq, J, ae, E]
  unfold fV
  first
  | (rw [eX (by omega)]; exact br ⟨bq ⟨.refl _, .refl _, .refl _, aQ rfl, aQ rfl, trivial⟩, aB (.refl _), trivial⟩)
  | (rw [fD (by omega) (k := k) (by omega) (iU (by omega))]; exact br ⟨bq ⟨.refl _, .refl _, .refl _, aQ rfl, aQ rfl, trivial⟩, aB (.refl _), trivial⟩)
  | (have hkl : k = cl.length := by omega
     subst hkl
     rw [gn (by omega) hq]; exact VLE.of_eq rfl)
 ·(try simp only [zB, reduceCtorEq] at hc5)
  refine aT ?_
  refine hK2 _ ?_; clear hK2; refine ai [0, 2, 3, 14] ?_; simp only [ad, lkp, zE, reduceCtorEq, J, ae, E]
  refine ah fun K7 hK7 => ?_
  refine ao hP hN rfl ?_
  (refine ag rfl fun K0 aa => ?_; simp only [zE, op1, ev, lkp, am, ak, ev, reduceCtorEq, J, E, U, Z, V, Y, Tryd.td3]; refine aa _ ?_; clear aa K0; simp only [put, app, af, aj, zE, zS, E])
  refine aq ?_
  refine hK7 _ ?_; clear hK7; refine ai [0, 2, 3, 4, 14] ?_; simp only [ad, lkp, zE, reduceCtorEq, J, ae, E]
  refine ah fun K8 hK8 => ?_
  refine ah fun K9 hK9 => ?_
  refine ao hP hN rfl ?_
  iterate 3 (refine ag rfl fun K0 aa => ?_; simp only [zE, op1, ev, lkp, am, ak, aP, bT, bC, bu, bv, bP, Nat.div_one, aV, bz, Ty.size, aM, dite_true, reduceCtorEq, J, E, U, Z, V, Y, Tryd.el25, Tryd.td25, Tryd.td3]; (repeat refine And.intro (by first | omega | assumption | exact rfl) ?_); (first | refine aa _ ?_ | refine Or.inl (aa _ ?_)); clear aa K0; simp only [put, app, af, aj, zE, zS, E])
  refine aq ?_
  refine hK9 _ ?_; clear hK9; refine ai [0, 2, 3, 4, 14, 16, 17, 18] ?_; simp only [ad, lkp, zE, reduceCtorEq, J, ae, E]
  refine b8 ?_
  refine cj (fun n10 s10 => ∃ (k : Nat), (k ≤ cl.length) ∧ (∀ q, q < k → dz cl q = false) ∧ n10 = cl.length - k ∧ s10 = { env := [(0, .one (.list (.int .i64) cl)), (2, .one (.ptr 0 0 0 0)), (4, .one (.int .i64 (cN cl k))), (16, .one (.list (.int .i64) cl)), (17, .one (.int .i64 (cl.length : Int))), (18, .one (.int .i64 (k : Int)))], L := [.vars 32 [.int .i64 0, .int .i64 0, .int .i64 0, .nils, .nils]] }) ?_ ?_
  ·refine ⟨_, _, aY [0, 2, 4, 16, 17, 18], 0, Nat.zero_le _, fun q hq => by omega, rfl, rfl⟩
  ·rintro n10 s10 ⟨k, hk, hq, rfl, rfl⟩
   refine ah fun K11 hK11 => ?_
   refine ao hP hN rfl ?_
   (refine ag rfl fun K0 aa => ?_; simp only [zE, op1, ev, lkp, am, ak, aJ, aK, aI, ay, aH, aX, reduceCtorEq, J, E, U, Z, V, Y, Tryd.td3]; (repeat refine And.intro (by first | omega | assumption | exact rfl) ?_); refine aa _ ?_; clear aa K0; simp only [put, app, af, aj, zE, zS, E])
   refine aq ?_
   refine hK11 _ ?_; clear hK11; refine ai [0, 2, 4, 16, 17, 18, 19] ?_; simp only [ad, lkp, zE, reduceCtorEq, J, ae, E]
   refine ah fun K12 hK12 => ?_
   refine aL (by simp only [ev, ad, lkp, zE, reduceCtorEq, J, ae, E]; exact rfl) (fun hc13 => ?_) (fun hc13 => ?_)
   ·(try simp only [zB, reduceCtorEq] at hc13)
    refine aT ?_
    refine hK12 _ ?_; clear hK12; refine ai [0, 2, 4, 16, 17, 18, 19] ?_; simp only [ad, lkp, zE, reduceCtorEq, J, ae, E]
    refine ah fun K14 hK14 => ?_
    refine b8 ?_
    refine ah fun K15 hK15 => ?_
    refine ao hP hN rfl ?_
    iterate 3 (refine ag rfl fun K0 aa => ?_; simp only [zE, op1, ev, lkp, am, ak, aS, zG, Ty.dflt, Ty.size, Nat.mul_one, ne_eq, not_false_eq_true, Int.natCast_one, Int.mul_one, aE, aC, aD, acs, az, reduceCtorEq, J, E, U, Z, V, Y, Tryd.el25, Tryd.td25, Tryd.td3]; (repeat refine And.intro (by first | omega | assumption | exact rfl) ?_); refine aa _ ?_; clear aa K0; simp only [put, app, af, aj, zE, zS, E])
    refine aq ?_
    refine hK15 _ ?_; clear hK15; refine ai [0, 2, 4, 6, 16, 17, 18, 19] ?_; simp only [ad, lkp, zE, reduceCtorEq, J, ae, E]
    refine ah fun K16 hK16 => ?_
    refine ah fun K17 hK17 => ?_
    refine ao hP hN rfl ?_
    iterate 2 (refine ag rfl fun K0 aa => ?_; simp only [zE, op1, ev, lkp, am, ak, aJ, aK, aI, ay, aH, aX, reduceCtorEq, J, E, U, Z, V, Y, Tryd.td3, Tryd.td4]; (repeat refine And.intro (by first | omega | assumption | exact rfl) ?_); refine aa _ ?_; clear aa K0; simp only [put, app, af, aj, zE, zS, E])
    (refine ag rfl fun K0 aa => ?_; simp only [zE, op1, ev, lkp, am, ak, ev, reduceCtorEq, J, E, U, Z, V, Y, Tryd.td4]; refine aa _ ?_; clear aa K0; simp only [put, app, af, aj, zE, zS, E])
    refine' bn (want := false) 3 rfl (m := 24) (by simp only [ad, lkp, zE, reduceCtorEq, J, ae, E]; exact rfl) (by kernel_rfl) rfl rfl rfl rfl rfl (fun hg18 => ?a18) ?b18 ?c18
    case a18 =>
     have hq18 := hg18; (try simp only [zB, reduceCtorEq] at hg18); simp only [List.take_succ_cons, List.take_zero, List.cons_append, List.nil_append]
     (refine aG rfl fun K0 aa => ?_; simp only [zE, op1, ev, lkp, am, ak, ev, reduceCtorEq, J, E, U, Z, V, Y, Tryd.td3]; refine aa _ ?_; clear aa K0; simp only [put, app, af, aj, zE, zS, E])
     (refine aG rfl fun K0 aa => ?_; simp only [zE, op1, ev, lkp, am, ak, ev, reduceCtorEq, J, E, U, Z, V, Y, Tryd.td3]; refine aa _ ?_; clear aa K0; simp only [put, app, af, aj, zE, zS, E])
     (refine aG rfl fun K0 aa => ?_; simp only [zE, op1, ev, lkp, am, ak, aJ, aK, aI, ay, aH, aX, reduceCtorEq, J, E, U, Z, V, Y, Tryd.td3, Tryd.td4]; (repeat refine And.intro (by first | omega | assumption | exact rfl) ?_); refine aa _ ?_; clear aa K0; simp only [put, app, af, aj, zE, zS, E])
     (refine ag rfl fun K0 aa => ?_; simp only [zE, op1, ev, lkp, am, ak, bU, reduceCtorEq, J, E, U, Z, V, Y, Tryd.td4]; refine aa _ ?_; clear aa K0; simp only [put, app, af, aj, zE, zS, E])
     refine aq ?_
     refine ⟨by simp only [ad, lkp, zE, reduceCtorEq, J, ae, E]; exact rfl, rfl, ?_, rfl⟩; (repeat refine bo rfl ?_); exact bY (by exact rfl) hq18
    case b18 => exact bV (by first | rfl | (simp [cD]; done) | decide)
    simp only [bM, bB]
    refine aq ?_
    refine hK17 _ ?_; clear hK17; refine ai [0, 2, 4, 6, 16, 17, 18, 19, 28] ?_; simp only [ad, lkp, zE, reduceCtorEq, J, ae, E]
    refine aL (by simp only [ev, ad, lkp, zE, reduceCtorEq, J, ae, E]; exact rfl) (fun hc19 => ?_) (fun hc19 => ?_)
    ·(try simp only [zB, reduceCtorEq] at hc19)
     refine ah fun K20 hK20 => ?_
     refine ao hP hN rfl ?_
     iterate 3 (refine ag rfl fun K0 aa => ?_; simp only [zE, op1, ev, lkp, am, ak, cF, bl, aR, ax, bJ, Nat.mul_one, aM, acs, Ty.size, Ty.dflt, zG, reduceCtorEq, J, E, U, Z, V, Y, Tryd.st32, Tryd.td28, Tryd.td32]; (repeat refine And.intro (by first | omega | assumption | exact rfl) ?_); (first | refine aa _ ?_ | refine Or.inl (aa _ ?_)); clear aa K0; simp only [put, app, af, aj, zE, zS, E])
     refine aq ?_
     refine hK20 _ ?_; clear hK20; refine ai [0, 2, 3, 4, 6, 16, 17, 18, 19, 28] ?_; simp only [ad, lkp, zE, reduceCtorEq, J, ae, E]
     refine aU ?_
     refine ⟨by first | exact .inl rfl | exact .inr rfl, _, rfl, ?_⟩; simp only [fzV, fz1, fzC, List.map_cons, List.map_nil, ad, lkp, zE, reduceCtorEq, J, ae, E]
     unfold fV
     first
     | (rw [eX (by omega)]; exact br ⟨bq ⟨.refl _, .refl _, .refl _, aQ rfl, aQ rfl, trivial⟩, aB (.refl _), trivial⟩)
     | (rw [fD (by omega) (k := k) (by omega) (iU (by omega))]; exact br ⟨bq ⟨.refl _, .refl _, .refl _, aQ rfl, aQ rfl, trivial⟩, aB (.refl _), trivial⟩)
     | (have hkl : k = cl.length := by omega
        subst hkl
        rw [gn (by omega) hq]; exact VLE.of_eq rfl)
    ·(try simp only [zB, reduceCtorEq] at hc19)
     refine aT ?_
     refine hK16 _ ?_; clear hK16; refine ai [0, 2, 4, 6, 16, 17, 18, 19, 28] ?_; simp only [ad, lkp, zE, reduceCtorEq, J, ae, E]
     have hcnb := pj hq
     refine ao hP hN rfl ?_
     iterate 5 (refine ag rfl fun K0 aa => ?_; simp only [zE, op1, ev, lkp, am, ak, aJ, aK, aI, ay, aH, aX, aP, bT, bC, bu, bv, bP, Nat.div_one, aV, bz, Ty.size, aM, dite_true, reduceCtorEq, J, E, U, Z, V, Y, Tryd.td3]; (repeat refine And.intro (by first | omega | assumption | exact rfl) ?_); (first | refine aa _ ?_ | refine Or.inl (aa _ ?_)); clear aa K0; simp only [put, app, af, aj, zE, zS, E])
     refine aq ?_
     refine hK14 _ ?_; clear hK14; refine ai [0, 2, 4, 6, 16, 17, 18, 19, 28] ?_; simp only [ad, lkp, zE, reduceCtorEq, J, ae, E]
     refine ao hP hN rfl ?_
     iterate 2 (refine ag rfl fun K0 aa => ?_; simp only [zE, op1, ev, lkp, am, ak, aJ, aK, aI, ay, aH, aX, reduceCtorEq, J, E, U, Z, V, Y, Tryd.td3]; (repeat refine And.intro (by first | omega | assumption | exact rfl) ?_); refine aa _ ?_; clear aa K0; simp only [put, app, af, aj, zE, zS, E])
     refine aq ?_
     have hbk : dz cl k = false := iz (by omega) (by omega)
     have hcn := pj hq
     refine ⟨_, _, ?_, aY [0, 2, 4, 16, 17, 18], k + 1, by omega, fun q hq2 => ?_, rfl, ?_⟩
     · omega
     · by_cases e : q = k
       · rw [e]; exact hbk
       · exact hq q (by omega)
     · first | rfl | (simp only [cN]; first | (rw [show max (cN cl k) (cl.getD k 0 + 1) = cN cl k + 1 by omega]; rfl) | (rw [show max (cN cl k) (cl.getD k 0 + 1) = cN cl k by omega]; rfl) | rfl)
   ·(try simp only [zB, reduceCtorEq] at hc13)
    refine cm ?_
    refine hK8 _ ?_; clear hK8; refine ai [0, 2, 4, 16, 17, 18, 19] ?_; simp only [ad, lkp, zE, reduceCtorEq, J, ae, E]
    refine ah fun K21 hK21 => ?_
    refine cB hP hN Tryd.mixed rfl ?_
    iterate 5 (refine ag rfl fun K0 aa => ?_; simp only [zE, op1, ev, lkp, am, ak, aP, bT, bC, bu, bv, bP, Nat.div_one, aV, bz, Ty.size, aM, dite_true, reduceCtorEq, J, E, U, Z, V, Y, Tryd.el25, Tryd.td25, Tryd.td3]; (repeat refine And.intro (by first | omega | assumption | exact rfl) ?_); (first | refine aa _ ?_ | refine Or.inl (aa _ ?_)); clear aa K0; simp only [put, app, af, aj, zE, zS, E])
    (refine ag rfl fun K0 aa => ?_; simp only [zE, op1, ev, lkp, am, ak, dr, aM, Ty.size, Ty.dflt, reduceCtorEq, J, E, U, Z, V, Y, Tryd.el25, Tryd.td25]; (repeat refine And.intro (by first | omega | assumption | exact rfl) ?_); refine Or.inr (Or.inr (aa _ ?_)); clear aa K0; simp only [put, app, af, aj, zE, zS, E])
    iterate 2 (refine ag rfl fun K0 aa => ?_; simp only [zE, op1, ev, lkp, am, ak, b0, bl, c8, rep, aM, aR, ax, Ty.size, reduceCtorEq, J, E, U, Z, V, Y, Tryd.el22, Tryd.el25, Tryd.td1, Tryd.td22, Tryd.td25]; (repeat refine And.intro (by first | omega | assumption | exact rfl) ?_); (first | refine aa _ ?_ | refine Or.inl (aa _ ?_)); clear aa K0; simp only [put, app, af, aj, zE, zS, E])
    refine ag rfl fun K0 aa => ?_
    refine aW (h := aF (n9 cl (by omega))) rfl rfl (by first | exact rfl | (simp only [ev, ad, lkp, zE, reduceCtorEq, J, ae, E]; exact rfl)) (by simp only [zE, zG, op1, ev, lkp, am, ak, ax, acs, bf, mv1, mvC, Ty.dflt, reduceCtorEq, J, E, U, Z, V, Y]) ?_
    refine aa _ ?_; clear aa K0; simp only [put, app, af, aj, zE, zS, E]
    iterate 4 (refine ag rfl fun K0 aa => ?_; simp only [zE, op1, ev, lkp, am, ak, b0, bl, c8, rep, aM, aR, ax, Ty.size, cF, bJ, Nat.mul_one, acs, Ty.dflt, zG, reduceCtorEq, J, E, U, Z, V, Y, Tryd.el22, Tryd.st32, Tryd.td1, Tryd.td22, Tryd.td28, Tryd.td32]; (repeat refine And.intro (by first | omega | assumption | exact rfl) ?_); (first | refine aa _ ?_ | refine Or.inl (aa _ ?_)); clear aa K0; simp only [put, app, af, aj, zE, zS, E])
    refine aq ?_
    refine ⟨by kernel_rfl, ?_⟩
    refine hK21 _ ?_; clear hK21; refine ai [0, 2, 3, 4, 16, 17, 18, 19] ?_; simp only [ad, lkp, zE, reduceCtorEq, J, ae, E]
    refine aU ?_
    refine ⟨by first | exact .inl rfl | exact .inr rfl, _, rfl, ?_⟩; simp only [fzV, fz1, fzC, List.map_cons, List.map_nil, ad, lkp, zE, reduceCtorEq, J, ae, E]
    unfold fV
    first
    | (rw [eX (by omega)]; exact br ⟨bq ⟨.refl _, .refl _, .refl _, aQ rfl, aQ rfl, trivial⟩, aB (.refl _), trivial⟩)
    | (rw [fD (by omega) (k := k) (by omega) (iU (by omega))]; exact br ⟨bq ⟨.refl _, .refl _, .refl _, aQ rfl, aQ rfl, trivial⟩, aB (.refl _), trivial⟩)
    | (have hkl : k = cl.length := by omega
       subst hkl
       rw [gn (by omega) hq]; exact VLE.of_eq rfl)
end Go.Proofs.YtceafldjjedhcaaDoor
namespace Go.Proofs.YtceafldjjedhcaaDoor
open Go Go.AV
open Nat renaming reduceEqDiff → J, reduceAdd → E, reduceLeDiff → U, reduceLT → Z, reduceMul → V, reduceSub → Y
open List renaming set_cons_zero → aw, set_cons_succ → au
set_option maxRecDepth 100000 in
theorem tm (m : Mly) (cl : List Int) : cq Tryd.prog 13 [m.av, .one (.list (.int .i64) cl)] (.one (.int .i64 (bE m cl))) := by
 refine bt Tryd.func13 rfl (by kernel_rfl) (Nat.le_of_ble_eq_true rfl) rfl fun C hP hN hB => ?_
 replace hN : C.N = 26 := hN
 simp only [ae, E]
 refine ah fun K1 hK1 => ?_
 refine ao hP hN rfl ?_
 iterate 2 (refine ag rfl fun K0 aa => ?_; simp only [zE, op1, ev, lkp, am, ak, dn, ax, reduceCtorEq, J, E, U, Z, V, Y, Tryd.st24, Tryd.td24, Tryd.td28, Mly.av]; (repeat refine And.intro (by first | omega | assumption | exact rfl) ?_); refine aa _ ?_; clear aa K0; simp only [put, app, af, aj, zE, zS, E])
 refine aq ?_
 refine hK1 _ ?_; clear hK1; refine ai [0, 1, 2, 4] ?_; simp only [ad, lkp, zE, reduceCtorEq, J, ae, E]
 refine ah fun K2 hK2 => ?_
 refine ah fun K3 hK3 => ?_
 refine ao hP hN rfl ?_
 (refine ag rfl fun K0 aa => ?_; simp only [zE, op1, ev, lkp, am, ak, aE, Nat.mul_one, aC, aD, acs, Ty.dflt, zG, az, reduceCtorEq, J, E, U, Z, V, Y, Tryd.st24, Tryd.td24, Mly.av]; (repeat refine And.intro (by first | omega | assumption | exact rfl) ?_); refine aa _ ?_; clear aa K0; simp only [put, app, af, aj, zE, zS, E])
 refine ag rfl fun K0 aa => ?_
 refine aW (h := aF (iF m)) rfl rfl (by first | exact rfl | (simp only [ev, ad, lkp, zE, reduceCtorEq, J, ae, E]; exact rfl)) (by simp only [zE, zG, op1, ev, lkp, am, ak, ax, acs, bf, mv1, mvC, Ty.dflt, reduceCtorEq, J, E, U, Z, V, Y, Mly.av]) ?_
 refine aa _ ?_; clear aa K0; simp only [put, app, af, aj, zE, zS, E]
 (refine ag rfl fun K0 aa => ?_; simp only [zE, op1, ev, lkp, am, ak, ev, reduceCtorEq, J, E, U, Z, V, Y, Tryd.td28, Mly.av]; refine aa _ ?_; clear aa K0; simp only [put, app, af, aj, zE, zS, E])
 refine aq ?_
 refine hK3 _ ?_; clear hK3; refine ai [0, 1, 2, 4, 5] ?_; simp only [ad, lkp, zE, reduceCtorEq, J, ae, E]
 refine ah fun K4 hK4 => ?_
 refine ao hP hN rfl ?_
 iterate 2 (refine ag rfl fun K0 aa => ?_; simp only [zE, op1, ev, lkp, am, ak, aJ, aK, aI, ay, aH, aX, reduceCtorEq, J, E, U, Z, V, Y, Tryd.td28, Tryd.td4, Mly.av]; (repeat refine And.intro (by first | omega | assumption | exact rfl) ?_); refine aa _ ?_; clear aa K0; simp only [put, app, af, aj, zE, zS, E])
 refine aq ?_
 refine hK4 _ ?_; clear hK4; refine ai [0, 1, 2, 4, 5, 11] ?_; simp only [ad, lkp, zE, reduceCtorEq, J, ae, E]
 refine aL (by simp only [ev, ad, lkp, zE, reduceCtorEq, J, ae, E]; exact rfl) (fun hc5 => ?_) (fun hc5 => ?_)
 ·(try simp only [zB, reduceCtorEq] at hc5)
  refine ah fun K6 hK6 => ?_
  refine ao hP hN rfl ?_
  iterate 2 (refine ag rfl fun K0 aa => ?_; simp only [zE, op1, ev, lkp, am, ak, ev, reduceCtorEq, J, E, U, Z, V, Y, Tryd.td28, Mly.av]; refine aa _ ?_; clear aa K0; simp only [put, app, af, aj, zE, zS, E])
  refine aq ?_
  refine hK6 _ ?_; clear hK6; refine ai [0, 1, 2, 4, 5, 11] ?_; simp only [ad, lkp, zE, reduceCtorEq, J, ae, E]
  refine aU ?_
  refine ⟨by first | exact .inl rfl | exact .inr rfl, _, rfl, ?_⟩; simp only [fzV, fz1, fzC, List.map_cons, List.map_nil, ad, lkp, zE, reduceCtorEq, J, ae, E, Mly.av]
  refine VLE.of_eq ?_
  refine congrArg (fun n => AV.one (AC.int IntKind.i64 n)) ?_
  symm
  unfold bE
  first
  | (rw [if_pos (by omega)]; done)
  | (rw [if_neg (by omega), if_pos (by omega)]; done)
  | (rw [if_neg (by omega), if_neg (by omega), if_neg (by omega)]; done)
  | (rw [if_neg (by omega), if_neg (by omega), if_pos (by omega)]; done)
 ·(try simp only [zB, reduceCtorEq] at hc5)
  refine aT ?_
  refine hK2 _ ?_; clear hK2; refine ai [0, 1, 2, 4, 5, 11] ?_; simp only [ad, lkp, zE, reduceCtorEq, J, ae, E]
  refine ah fun K7 hK7 => ?_
  refine ah fun K8 hK8 => ?_
  refine ao hP hN rfl ?_
  (refine ag rfl fun K0 aa => ?_; simp only [zE, op1, ev, lkp, am, ak, ev, reduceCtorEq, J, E, U, Z, V, Y, Tryd.el25, Tryd.td25, Mly.av]; refine aa _ ?_; clear aa K0; simp only [put, app, af, aj, zE, zS, E])
  refine ag rfl fun K0 aa => ?_
  refine aW (h := aF (rb cl)) rfl rfl (by first | exact rfl | (simp only [ev, ad, lkp, zE, reduceCtorEq, J, ae, E]; exact rfl)) (by simp only [zE, zG, op1, ev, lkp, am, ak, ax, acs, bf, mv1, mvC, Ty.dflt, reduceCtorEq, J, E, U, Z, V, Y, Mly.av]) ?_
  refine aa _ ?_; clear aa K0; simp only [put, app, af, aj, zE, zS, E]
  iterate 6 (refine ag rfl fun K0 aa => ?_; simp only [zE, op1, ev, lkp, am, ak, bS, cC, bJ, Nat.mul_one, ax, aR, aM, acs, Ty.size, Ty.dflt, zG, reduceCtorEq, J, E, U, Z, V, Y, Tryd.st32, Tryd.td1, Tryd.td28, Tryd.td32, Mly.av]; (repeat refine And.intro (by first | omega | assumption | exact rfl) ?_); (first | refine aa _ ?_ | refine Or.inl (aa _ ?_)); clear aa K0; simp only [put, app, af, aj, zE, zS, E])
  refine aq ?_
  refine hK8 _ ?_; clear hK8; refine ai [0, 1, 2, 4, 5, 7, 11] ?_; simp only [ad, lkp, zE, reduceCtorEq, J, ae, E]
  refine ah fun K9 hK9 => ?_
  refine ao hP hN rfl ?_
  iterate 2 (refine ag rfl fun K0 aa => ?_; simp only [zE, op1, ev, lkp, am, ak, aJ, aK, aI, ay, aH, aX, reduceCtorEq, J, E, U, Z, V, Y, Tryd.td28, Tryd.td4, Mly.av]; (repeat refine And.intro (by first | omega | assumption | exact rfl) ?_); refine aa _ ?_; clear aa K0; simp only [put, app, af, aj, zE, zS, E])
  refine aq ?_
  refine hK9 _ ?_; clear hK9; refine ai [0, 1, 2, 4, 5, 7, 11, 19] ?_; simp only [ad, lkp, zE, reduceCtorEq, J, ae, E]
  refine aL (by simp only [ev, ad, lkp, zE, reduceCtorEq, J, ae, E]; exact rfl) (fun hc10 => ?_) (fun hc10 => ?_)
  ·(try simp only [zB, reduceCtorEq] at hc10)
   refine ah fun K11 hK11 => ?_
   refine ao hP hN rfl ?_
   iterate 2 (refine ag rfl fun K0 aa => ?_; simp only [zE, op1, ev, lkp, am, ak, ev, reduceCtorEq, J, E, U, Z, V, Y, Tryd.td28, Mly.av]; refine aa _ ?_; clear aa K0; simp only [put, app, af, aj, zE, zS, E])
   refine aq ?_
   refine hK11 _ ?_; clear hK11; refine ai [0, 1, 2, 4, 5, 7, 11, 19] ?_; simp only [ad, lkp, zE, reduceCtorEq, J, ae, E]
   refine aU ?_
   refine ⟨by first | exact .inl rfl | exact .inr rfl, _, rfl, ?_⟩; simp only [fzV, fz1, fzC, List.map_cons, List.map_nil, ad, lkp, zE, reduceCtorEq, J, ae, E, Mly.av]
   refine VLE.of_eq ?_
   refine congrArg (fun n => AV.one (AC.int IntKind.i64 n)) ?_
   symm
   unfold bE
   first
   | (rw [if_pos (by omega)]; done)
   | (rw [if_neg (by omega), if_pos (by omega)]; done)
   | (rw [if_neg (by omega), if_neg (by omega), if_neg (by omega)]; done)
   | (rw [if_neg (by omega), if_neg (by omega), if_pos (by omega)]; done)
  ·(try simp only [zB, reduceCtorEq] at hc10)
   refine aT ?_
   refine hK7 _ ?_; clear hK7; refine ai [0, 1, 2, 4, 5, 7, 11, 19] ?_; simp only [ad, lkp, zE, reduceCtorEq, J, ae, E]
   refine ah fun K12 hK12 => ?_
   refine ah fun K13 hK13 => ?_
   refine ao hP hN rfl ?_
   iterate 5 (refine ag rfl fun K0 aa => ?_; simp only [zE, op1, ev, lkp, am, ak, aP, bT, bC, bu, bv, bP, Nat.div_one, aV, bz, Ty.size, aM, dite_true, aA, aE, Nat.mul_one, aC, aD, acs, Ty.dflt, zG, az, aJ, aK, aI, ay, aH, aX, reduceCtorEq, J, E, U, Z, V, Y, Tryd.el25, Tryd.st24, Tryd.td24, Tryd.td25, Tryd.td3, Tryd.td4, Mly.av]; (repeat refine And.intro (by first | omega | assumption | exact rfl) ?_); (first | refine aa _ ?_ | refine Or.inl (aa _ ?_)); clear aa K0; simp only [put, app, af, aj, zE, zS, E])
   refine aq ?_
   refine hK13 _ ?_; clear hK13; refine ai [0, 1, 2, 4, 5, 7, 11, 19, 25] ?_; simp only [ad, lkp, zE, reduceCtorEq, J, ae, E]
   refine aL (by simp only [ev, ad, lkp, zE, reduceCtorEq, J, ae, E]; exact rfl) (fun hc14 => ?_) (fun hc14 => ?_)
   ·(try simp only [zB, reduceCtorEq] at hc14)
    refine ah fun K15 hK15 => ?_
    refine ao hP hN rfl ?_
    (refine ag rfl fun K0 aa => ?_; simp only [zE, op1, ev, lkp, am, ak, ev, reduceCtorEq, J, E, U, Z, V, Y, Tryd.td28, Mly.av]; refine aa _ ?_; clear aa K0; simp only [put, app, af, aj, zE, zS, E])
    refine aq ?_
    refine hK15 _ ?_; clear hK15; refine ai [0, 1, 2, 4, 5, 7, 11, 19, 25] ?_; simp only [ad, lkp, zE, reduceCtorEq, J, ae, E]
    refine aU ?_
    refine ⟨by first | exact .inl rfl | exact .inr rfl, _, rfl, ?_⟩; simp only [fzV, fz1, fzC, List.map_cons, List.map_nil, ad, lkp, zE, reduceCtorEq, J, ae, E, Mly.av]
    refine VLE.of_eq ?_
    refine congrArg (fun n => AV.one (AC.int IntKind.i64 n)) ?_
    symm
    unfold bE
    first
    | (rw [if_pos (by omega)]; done)
    | (rw [if_neg (by omega), if_pos (by omega)]; done)
    | (rw [if_neg (by omega), if_neg (by omega), if_neg (by omega)]; done)
    | (rw [if_neg (by omega), if_neg (by omega), if_pos (by omega)]; done)
   ·(try simp only [zB, reduceCtorEq] at hc14)
    refine aT ?_
    refine hK12 _ ?_; clear hK12; refine ai [0, 1, 2, 4, 5, 7, 11, 19, 25] ?_; simp only [ad, lkp, zE, reduceCtorEq, J, ae, E]
    refine ah fun K16 hK16 => ?_
    refine ao hP hN rfl ?_
    (refine ag rfl fun K0 aa => ?_; simp only [zE, op1, ev, lkp, am, ak, ev, reduceCtorEq, J, E, U, Z, V, Y, Tryd.td28, Mly.av]; refine aa _ ?_; clear aa K0; simp only [put, app, af, aj, zE, zS, E])
    refine aq ?_
    refine hK16 _ ?_; clear hK16; refine ai [0, 1, 2, 4, 5, 7, 11, 19, 25] ?_; simp only [ad, lkp, zE, reduceCtorEq, J, ae, E]
    refine aU ?_
    refine ⟨by first | exact .inl rfl | exact .inr rfl, _, rfl, ?_⟩; simp only [fzV, fz1, fzC, List.map_cons, List.map_nil, ad, lkp, zE, reduceCtorEq, J, ae, E, Mly.av]
    refine VLE.of_eq ?_
    refine congrArg (fun n => AV.one (AC.int IntKind.i64 n)) ?_
    symm
    unfold bE
    first
    | (rw [if_pos (by omega)]; done)
    | (rw [if_neg (by omega), if_pos (by omega)]; done)
    | (rw [if_neg (by omega), if_neg (by omega), if_neg (by omega)]; done)
    | (rw [if_neg (by omega), if_neg (by omega), if_pos (by omega)]; done)
end Go.Proofs.YtceafldjjedhcaaDoor
namespace Go.Proofs.YtceafldjjedhcaaDoor
open Go Go.AV
open Nat renaming reduceEqDiff → J, reduceAdd → E, reduceLeDiff → U, reduceLT → Z, reduceMul → V, reduceSub → Y
open List renaming set_cons_zero → aw, set_cons_succ → au
set_option maxRecDepth 100000 in
theorem uB (m : Mly) (cl : List Int) (hk : COK m cl) : cq Tryd.prog 15 [.agg [.int .i64 m.inp, .int .i64 m.st, .list (.list (.int .i64)) m.nx, .list (.list (.int .i64)) m.ot, .list (.int .i64) (cE m.exR), .list (.list (.int .i64)) (dX m.exR), .list (.int .i64) m.eqc], .one (.list (.int .i64) cl)] (.tup [.agg [.int .i64 (f3 (cZ m cl)).1, .int .i64 (f3 (cZ m cl)).2.1, .int .i64 (f3 (cZ m cl)).2.2], .one (.bool (cZ m cl).isSome)]) := by
 have hm := hk.ok; have hlen := hk.len; have hi2 := hm.i2; have hn2 := hm.n2; have hwx := iy hm; have hxl := hwx.le; have hfx := cS m.exR
 refine bt Tryd.func15 rfl (by kernel_rfl) (Nat.le_of_ble_eq_true rfl) rfl fun C hP hN hB => ?_
 replace hN : C.N = 55 := hN
 simp only [ae, E]
 refine ah fun K1 hK1 => ?_
 refine ao hP hN rfl ?_
 iterate 3 (refine ag rfl fun K0 aa => ?_; simp only [zE, op1, ev, lkp, am, ak, dn, ax, cC, reduceCtorEq, J, E, U, Z, V, Y, Tryd.fl51, Tryd.st48, Tryd.st51, Tryd.td4, Tryd.td48, Tryd.td51]; (repeat refine And.intro (by first | omega | assumption | exact rfl) ?_); (first | refine aa _ ?_ | refine Or.inl (aa _ ?_)); clear aa K0; simp only [put, app, af, aj, zE, zS, E])
 refine aq ?_
 refine hK1 _ ?_; clear hK1; refine ai [0, 1, 2, 4, 5] ?_; simp only [ad, lkp, zE, reduceCtorEq, J, ae, E]
 refine ah fun K2 hK2 => ?_
 refine ah fun K3 hK3 => ?_
 refine ao hP hN rfl ?_
 iterate 4 (refine ag rfl fun K0 aa => ?_; simp only [zE, op1, ev, lkp, am, ak, aA, aE, Nat.mul_one, aC, aD, acs, Ty.dflt, zG, az, aP, bT, bC, bu, bv, bP, Nat.div_one, aV, bz, Ty.size, aM, dite_true, reduceCtorEq, J, E, U, Z, V, Y, Tryd.el25, Tryd.st48, Tryd.td1, Tryd.td25, Tryd.td3, Tryd.td48]; (repeat refine And.intro (by first | omega | assumption | exact rfl) ?_); (first | refine aa _ ?_ | refine Or.inl (aa _ ?_)); clear aa K0; simp only [put, app, af, aj, zE, zS, E])
 refine aq ?_
 refine hK3 _ ?_; clear hK3; refine ai [0, 1, 2, 4, 5, 11, 12, 13] ?_; simp only [ad, lkp, zE, reduceCtorEq, J, ae, E]
 refine b8 ?_
 refine cj (fun n4 s4 => ∃ (i : Nat), (i ≤ m.exR.length) ∧ (∀ q, q < i → kU m cl (m.exR.getD q eX0).1 = none) ∧ n4 = m.exR.length - i ∧ s4 = { env := [(1, .one (.list (.int .i64) cl)), (2, .one (.ptr 0 0 0 0)), (4, .one (.ptr 1 0 0 0)), (11, .one (.list (.int .i64) (cE m.exR))), (12, .one (.int .i64 ((cE m.exR).length : Int))), (13, .one (.int .i64 (i : Int)))], L := [.vars 48 [.int .i64 m.inp, .int .i64 m.st, .list (.list (.int .i64)) m.nx, .list (.list (.int .i64)) m.ot, .list (.int .i64) (cE m.exR), .list (.list (.int .i64)) (dX m.exR), .list (.int .i64) m.eqc], .vars 51 [.int .i64 0, .int .i64 0, .int .i64 0]] }) ?_ ?_
 ·exact ⟨_, _, aY [1, 2, 4, 11, 12, 13], 0, Nat.zero_le _, fun q hq => by omega, rfl, rfl⟩
 ·rintro n4 s4 ⟨i, hi, hqi, rfl, rfl⟩
  refine ah fun K5 hK5 => ?_
  refine ao hP hN rfl ?_
  (refine ag rfl fun K0 aa => ?_; simp only [zE, op1, ev, lkp, am, ak, aJ, aK, aI, ay, aH, aX, reduceCtorEq, J, E, U, Z, V, Y, Tryd.td3]; (repeat refine And.intro (by first | omega | assumption | exact rfl) ?_); refine aa _ ?_; clear aa K0; simp only [put, app, af, aj, zE, zS, E])
  refine aq ?_
  refine hK5 _ ?_; clear hK5; refine ai [1, 2, 4, 11, 12, 13, 14] ?_; simp only [ad, lkp, zE, reduceCtorEq, J, ae, E]
  refine ah fun K6 hK6 => ?_
  refine aL (by simp only [ev, ad, lkp, zE, reduceCtorEq, J, ae, E]; exact rfl) (fun hc7 => ?_) (fun hc7 => ?_)
  ·(try simp only [zB, reduceCtorEq] at hc7)
   refine aT ?_
   refine hK6 _ ?_; clear hK6; refine ai [1, 2, 4, 11, 12, 13, 14] ?_; simp only [ad, lkp, zE, reduceCtorEq, J, ae, E]
   refine ah fun K8 hK8 => ?_
   refine b8 ?_
   refine ah fun K9 hK9 => ?_
   have hgx := fI (l := m.exR) (i := i) (by omega)
   refine ao hP hN rfl ?_
   iterate 5 (refine ag rfl fun K0 aa => ?_; simp only [zE, op1, ev, lkp, am, ak, aS, zG, Ty.dflt, Ty.size, Nat.mul_one, ne_eq, not_false_eq_true, Int.natCast_one, Int.mul_one, aE, aC, aD, acs, az, reduceCtorEq, J, E, U, Z, V, Y, Tryd.el25, Tryd.td25, Tryd.td3, hgx]; (repeat refine And.intro (by first | omega | assumption | exact rfl) ?_); refine aa _ ?_; clear aa K0; simp only [put, app, af, aj, zE, zS, E])
   refine aq ?_
   refine hK9 _ ?_; clear hK9; refine ai [1, 2, 4, 6, 7, 11, 12, 13, 14] ?_; simp only [ad, lkp, zE, reduceCtorEq, J, ae, E]
   refine ah fun K10 hK10 => ?_
   refine ao hP hN rfl ?_
   iterate 3 (refine ag rfl fun K0 aa => ?_; simp only [zE, op1, ev, lkp, am, ak, aP, bT, bC, bu, bv, bP, Nat.div_one, aV, bz, Ty.size, aM, dite_true, reduceCtorEq, J, E, U, Z, V, Y, Tryd.el25, Tryd.td25, Tryd.td3]; (repeat refine And.intro (by first | omega | assumption | exact rfl) ?_); (first | refine aa _ ?_ | refine Or.inl (aa _ ?_)); clear aa K0; simp only [put, app, af, aj, zE, zS, E])
   refine aq ?_
   refine hK10 _ ?_; clear hK10; refine ai [1, 2, 4, 6, 7, 11, 12, 13, 14, 19, 20] ?_; simp only [ad, lkp, zE, reduceCtorEq, J, ae, E]
   refine b8 ?_
   refine cj (fun n11 s11 => ∃ (c : Nat), (c ≤ cl.length) ∧ (∀ q, q < c → ip m cl (m.exR.getD i eX0).1 q = none) ∧ n11 = cl.length - c ∧ s11 = { env := [(1, .one (.list (.int .i64) cl)), (2, .one (.ptr 0 0 0 0)), (4, .one (.ptr 1 0 0 0)), (6, .one (.int .i64 (i : Int))), (7, .one (.int .i64 (m.exR.getD i eX0).1)), (11, .one (.list (.int .i64) (cE m.exR))), (12, .one (.int .i64 ((cE m.exR).length : Int))), (13, .one (.int .i64 (i : Int))), (19, .one (.int .i64 (cl.length : Int))), (20, .one (.int .i64 (c : Int)))], L := [.vars 48 [.int .i64 m.inp, .int .i64 m.st, .list (.list (.int .i64)) m.nx, .list (.list (.int .i64)) m.ot, .list (.int .i64) (cE m.exR), .list (.list (.int .i64)) (dX m.exR), .list (.int .i64) m.eqc], .vars 51 [.int .i64 0, .int .i64 0, .int .i64 0]] }) ?_ ?_
   ·exact ⟨_, _, aY [1, 2, 4, 6, 7, 11, 12, 13, 19, 20], 0, Nat.zero_le _, fun q hq => by omega, rfl, rfl⟩
   ·rintro n11 s11 ⟨c, hcl, hqc, rfl, rfl⟩
    refine ah fun K12 hK12 => ?_
    refine ao hP hN rfl ?_
    (refine ag rfl fun K0 aa => ?_; simp only [zE, op1, ev, lkp, am, ak, aJ, aK, aI, ay, aH, aX, reduceCtorEq, J, E, U, Z, V, Y, Tryd.td3]; (repeat refine And.intro (by first | omega | assumption | exact rfl) ?_); refine aa _ ?_; clear aa K0; simp only [put, app, af, aj, zE, zS, E])
    refine aq ?_
    refine hK12 _ ?_; clear hK12; refine ai [1, 2, 4, 6, 7, 11, 12, 13, 19, 20, 21] ?_; simp only [ad, lkp, zE, reduceCtorEq, J, ae, E]
    refine ah fun K13 hK13 => ?_
    refine aL (by simp only [ev, ad, lkp, zE, reduceCtorEq, J, ae, E]; exact rfl) (fun hc14 => ?_) (fun hc14 => ?_)
    ·(try simp only [zB, reduceCtorEq] at hc14)
     refine aT ?_
     refine hK13 _ ?_; clear hK13; refine ai [1, 2, 4, 6, 7, 11, 12, 13, 19, 20, 21] ?_; simp only [ad, lkp, zE, reduceCtorEq, J, ae, E]
     refine ah fun K15 hK15 => ?_
     refine b8 ?_
     refine ah fun K16 hK16 => ?_
     refine ao hP hN rfl ?_
     iterate 2 (refine ag rfl fun K0 aa => ?_; simp only [zE, op1, ev, lkp, am, ak, ev, reduceCtorEq, J, E, U, Z, V, Y, Tryd.td3]; refine aa _ ?_; clear aa K0; simp only [put, app, af, aj, zE, zS, E])
     refine aq ?_
     refine hK16 _ ?_; clear hK16; refine ai [1, 2, 4, 6, 7, 8, 11, 12, 13, 19, 20, 21] ?_; simp only [ad, lkp, zE, reduceCtorEq, J, ae, E]
     refine ah fun K17 hK17 => ?_
     refine ao hP hN rfl ?_
     iterate 3 (refine ag rfl fun K0 aa => ?_; simp only [zE, op1, ev, lkp, am, ak, aJ, aK, aI, ay, aH, aX, reduceCtorEq, J, E, U, Z, V, Y, Tryd.td3]; (repeat refine And.intro (by first | omega | assumption | exact rfl) ?_); refine aa _ ?_; clear aa K0; simp only [put, app, af, aj, zE, zS, E])
     refine aq ?_
     refine hK17 _ ?_; clear hK17; refine ai [1, 2, 4, 6, 7, 8, 9, 11, 12, 13, 19, 20, 21] ?_; simp only [ad, lkp, zE, reduceCtorEq, J, ae, E]
     refine b8 ?_
     refine cj (fun n18 s18 => ∃ (d : Nat), (c < d) ∧ (d ≤ cl.length) ∧ (∀ q, c < q → q < d → fL m cl (m.exR.getD i eX0).1 c q = false) ∧ n18 = cl.length - d ∧ s18 = { env := [(1, .one (.list (.int .i64) cl)), (2, .one (.ptr 0 0 0 0)), (4, .one (.ptr 1 0 0 0)), (6, .one (.int .i64 (i : Int))), (7, .one (.int .i64 (m.exR.getD i eX0).1)), (8, .one (.int .i64 (c : Int))), (9, .one (.int .i64 (d : Int))), (11, .one (.list (.int .i64) (cE m.exR))), (12, .one (.int .i64 ((cE m.exR).length : Int))), (13, .one (.int .i64 (i : Int))), (19, .one (.int .i64 (cl.length : Int))), (20, .one (.int .i64 (c : Int)))], L := [.vars 48 [.int .i64 m.inp, .int .i64 m.st, .list (.list (.int .i64)) m.nx, .list (.list (.int .i64)) m.ot, .list (.int .i64) (cE m.exR), .list (.list (.int .i64)) (dX m.exR), .list (.int .i64) m.eqc], .vars 51 [.int .i64 0, .int .i64 0, .int .i64 0]] }) ?_ ?_
     ·exact ⟨_, _, aY [1, 2, 4, 6, 7, 8, 9, 11, 12, 13, 19, 20], c + 1, by omega, by omega, fun q h1 h2 => by omega, rfl, rfl⟩
     ·rintro n18 s18 ⟨d, hcd, hdl, hqd, rfl, rfl⟩
      refine ah fun K19 hK19 => ?_
      refine ah fun K20 hK20 => ?_
      refine ao hP hN rfl ?_
      iterate 4 (refine ag rfl fun K0 aa => ?_; simp only [zE, op1, ev, lkp, am, ak, aP, bT, bC, bu, bv, bP, Nat.div_one, aV, bz, Ty.size, aM, dite_true, aJ, aK, aI, ay, aH, aX, reduceCtorEq, J, E, U, Z, V, Y, Tryd.el25, Tryd.td25, Tryd.td3, Tryd.td4]; (repeat refine And.intro (by first | omega | assumption | exact rfl) ?_); (first | refine aa _ ?_ | refine Or.inl (aa _ ?_)); clear aa K0; simp only [put, app, af, aj, zE, zS, E])
      refine aq ?_
      refine hK20 _ ?_; clear hK20; refine ai [1, 2, 4, 6, 7, 8, 9, 11, 12, 13, 19, 20, 28] ?_; simp only [ad, lkp, zE, reduceCtorEq, J, ae, E]
      refine aL (by simp only [ev, ad, lkp, zE, reduceCtorEq, J, ae, E]; exact rfl) (fun hc21 => ?_) (fun hc21 => ?_)
      ·(try simp only [zB, reduceCtorEq] at hc21)
       refine aT ?_
       refine hK19 _ ?_; clear hK19; refine ai [1, 2, 4, 6, 7, 8, 9, 11, 12, 13, 19, 20, 28] ?_; simp only [ad, lkp, zE, reduceCtorEq, J, ae, E]
       refine ah fun K22 hK22 => ?_
       refine b8 ?_
       refine ah fun K23 hK23 => ?_
       refine cB hP hN Tryd.mixed rfl ?_
       iterate 9 (refine ag rfl fun K0 aa => ?_; simp only [zE, op1, ev, lkp, am, ak, aS, zG, Ty.dflt, Ty.size, Nat.mul_one, ne_eq, not_false_eq_true, Int.natCast_one, Int.mul_one, aE, aC, aD, acs, az, aJ, aK, aI, ay, aH, aX, reduceCtorEq, J, E, U, Z, V, Y, Tryd.el25, Tryd.td25, Tryd.td3, Tryd.td4]; (repeat refine And.intro (by first | omega | assumption | exact rfl) ?_); refine aa _ ?_; clear aa K0; simp only [put, app, af, aj, zE, zS, E])
       (refine ag rfl fun K0 aa => ?_; simp only [zE, op1, ev, lkp, am, ak, ev, reduceCtorEq, J, E, U, Z, V, Y, Tryd.td4]; refine aa _ ?_; clear aa K0; simp only [put, app, af, aj, zE, zS, E])
       refine' bn (want := true) 6 rfl (m := 40) (by simp only [ad, lkp, zE, reduceCtorEq, J, ae, E]; exact rfl) (by kernel_rfl) rfl rfl rfl rfl rfl (fun hg24 => ?a24) ?b24 ?c24
       case a24 =>
        have hq24 := hg24; (try simp only [zB, reduceCtorEq] at hg24); simp only [List.take_succ_cons, List.take_zero, List.cons_append, List.nil_append]
        (refine aG rfl fun K0 aa => ?_; simp only [zE, op1, ev, lkp, am, ak, aE, Nat.mul_one, aC, aD, acs, Ty.dflt, zG, az, reduceCtorEq, J, E, U, Z, V, Y, Tryd.st48, Tryd.td48]; (repeat refine And.intro (by first | omega | assumption | exact rfl) ?_); refine aa _ ?_; clear aa K0; simp only [put, app, af, aj, zE, zS, E])
        (refine aG rfl fun K0 aa => ?_; simp only [zE, op1, ev, lkp, am, ak, ev, reduceCtorEq, J, E, U, Z, V, Y, Tryd.td3]; refine aa _ ?_; clear aa K0; simp only [put, app, af, aj, zE, zS, E])
        (refine aG rfl fun K0 aa => ?_; simp only [zE, op1, ev, lkp, am, ak, ev, reduceCtorEq, J, E, U, Z, V, Y, Tryd.td3]; refine aa _ ?_; clear aa K0; simp only [put, app, af, aj, zE, zS, E])
        (refine aG rfl fun K0 aa => ?_; simp only [zE, op1, ev, lkp, am, ak, ev, reduceCtorEq, J, E, U, Z, V, Y, Tryd.td3]; refine aa _ ?_; clear aa K0; simp only [put, app, af, aj, zE, zS, E])
        refine aG rfl fun K0 aa => ?_
        refine aW (h := aF (nq m m.exR (m.exR.getD i eX0).1 c d hm (hwx.at_ (by omega)) (by omega) (by omega))) rfl rfl (by first | exact rfl | (simp only [ev, ad, lkp, zE, reduceCtorEq, J, ae, E]; exact rfl)) (by simp only [zE, zG, op1, ev, lkp, am, ak, ax, acs, bf, mv1, mvC, Ty.dflt, reduceCtorEq, J, E, U, Z, V, Y]) ?_
        refine aa _ ?_; clear aa K0; simp only [put, app, af, aj, zE, zS, E]
        (refine aG rfl fun K0 aa => ?_; simp only [zE, op1, ev, lkp, am, ak, fw, reduceCtorEq, J, E, U, Z, V, Y, Tryd.td4]; (repeat refine And.intro (by first | omega | assumption | exact rfl) ?_); refine aa _ ?_; clear aa K0; simp only [put, app, af, aj, zE, zS, E])
        (refine ag rfl fun K0 aa => ?_; simp only [zE, op1, ev, lkp, am, ak, bU, reduceCtorEq, J, E, U, Z, V, Y, Tryd.td4]; refine aa _ ?_; clear aa K0; simp only [put, app, af, aj, zE, zS, E])
        refine aq ?_
        refine ⟨by simp only [ad, lkp, zE, reduceCtorEq, J, ae, E]; exact rfl, rfl, ?_, rfl⟩; (repeat refine bo rfl ?_); exact bY (by exact rfl) hq24
       case b24 => exact bV (by first | rfl | (simp [cD]; done) | decide)
       simp only [bM, bB]
       refine aq ?_
       refine ⟨by kernel_rfl, ?_⟩
       refine hK23 _ ?_; clear hK23; refine ai [1, 2, 4, 6, 7, 8, 9, 11, 12, 13, 19, 20, 28, 47] ?_; simp only [ad, lkp, zE, reduceCtorEq, J, ae, E]
       refine aL (by simp only [ev, ad, lkp, zE, reduceCtorEq, J, ae, E]; exact rfl) (fun hc25 => ?_) (fun hc25 => ?_)
       ·(try simp only [zB, reduceCtorEq] at hc25)
        have hp : fL m cl (m.exR.getD i eX0).1 c d = true := by simp_all [fL]
        refine ah fun K26 hK26 => ?_
        refine ao hP hN rfl ?_
        iterate 6 (refine ag rfl fun K0 aa => ?_; simp only [zE, op1, ev, lkp, am, ak, cF, bl, aR, ax, bJ, Nat.mul_one, aM, acs, Ty.size, Ty.dflt, zG, reduceCtorEq, J, E, U, Z, V, Y, Tryd.fl51, Tryd.st51, Tryd.td3, Tryd.td4, Tryd.td51]; (repeat refine And.intro (by first | omega | assumption | exact rfl) ?_); (first | refine aa _ ?_ | refine Or.inl (aa _ ?_)); clear aa K0; simp only [put, app, af, aj, zE, zS, E])
        refine aq ?_
        refine hK26 _ ?_; clear hK26; refine ai [1, 2, 4, 5, 6, 7, 8, 9, 11, 12, 13, 19, 20, 28, 47] ?_; simp only [ad, lkp, zE, reduceCtorEq, J, ae, E]
        refine aU ?_
        refine ⟨by first | exact .inl rfl | exact .inr rfl, _, rfl, ?_⟩; simp only [fzV, fz1, fzC, List.map_cons, List.map_nil, ad, lkp, zE, reduceCtorEq, J, ae, E]
        refine VLE.of_eq ?_
        first
        | (have e1 := m4 (by omega) (by omega) hp hqd
           have e2 : kU m cl (m.exR.getD i eX0).1 = some (c, d) := oW (k := c) (by omega) (fun q hq => by rw [hqc q hq]; rfl) (by rw [e1]; rfl)
           have e3 : cZ m cl = some (i, c, d) := oW (k := i) (by omega) (fun q hq => by rw [hqi q hq]; rfl) (by rw [e2]; rfl)
           rw [e3]; rfl)
        | (have e3 : cZ m cl = none := sd fun q hq => by rw [hqi q (by omega)]; rfl
           rw [e3]; rfl)
       ·(try simp only [zB, reduceCtorEq] at hc25)
        have hp : fL m cl (m.exR.getD i eX0).1 c d = false := by
          by_cases h1 : cl.getD c 0 = cl.getD d 0 <;> cases h2 : i3 m (m.exR.getD i eX0).1 c d <;> simp_all [fL]
        refine aT ?_
        refine hK22 _ ?_; clear hK22; refine ai [1, 2, 4, 6, 7, 8, 9, 11, 12, 13, 19, 20, 28, 47] ?_; simp only [ad, lkp, zE, reduceCtorEq, J, ae, E]
        refine ao hP hN rfl ?_
        iterate 3 (refine ag rfl fun K0 aa => ?_; simp only [zE, op1, ev, lkp, am, ak, aJ, aK, aI, ay, aH, aX, reduceCtorEq, J, E, U, Z, V, Y, Tryd.td3]; (repeat refine And.intro (by first | omega | assumption | exact rfl) ?_); refine aa _ ?_; clear aa K0; simp only [put, app, af, aj, zE, zS, E])
        refine aq ?_
        refine ⟨_, _, ?_, aY [1, 2, 4, 6, 7, 8, 9, 11, 12, 13, 19, 20], d + 1, by omega, by omega, fun q h1 h2 => ?_, rfl, rfl⟩
        · omega
        · by_cases e : q = d
          · rw [e]; exact hp
          · exact hqd q h1 (by omega)
      ·(try simp only [zB, reduceCtorEq] at hc21)
       refine cm ?_
       refine hK15 _ ?_; clear hK15; refine ai [1, 2, 4, 6, 7, 8, 9, 11, 12, 13, 19, 20, 28] ?_; simp only [ad, lkp, zE, reduceCtorEq, J, ae, E]
       refine ao hP hN rfl ?_
       iterate 2 (refine ag rfl fun K0 aa => ?_; simp only [zE, op1, ev, lkp, am, ak, aJ, aK, aI, ay, aH, aX, reduceCtorEq, J, E, U, Z, V, Y, Tryd.td3]; (repeat refine And.intro (by first | omega | assumption | exact rfl) ?_); refine aa _ ?_; clear aa K0; simp only [put, app, af, aj, zE, zS, E])
       refine aq ?_
       refine ⟨_, _, ?_, aY [1, 2, 4, 6, 7, 11, 12, 13, 19, 20], c + 1, by omega, fun q hq => ?_, rfl, rfl⟩
       · omega
       · by_cases e : q = c
         · rw [e]; exact sa fun q2 h1 h2 => hqd q2 h1 (by omega)
         · exact hqc q (by omega)
    ·(try simp only [zB, reduceCtorEq] at hc14)
     refine cm ?_
     refine hK8 _ ?_; clear hK8; refine ai [1, 2, 4, 6, 7, 11, 12, 13, 19, 20, 21] ?_; simp only [ad, lkp, zE, reduceCtorEq, J, ae, E]
     refine ao hP hN rfl ?_
     iterate 2 (refine ag rfl fun K0 aa => ?_; simp only [zE, op1, ev, lkp, am, ak, aJ, aK, aI, ay, aH, aX, reduceCtorEq, J, E, U, Z, V, Y, Tryd.td3]; (repeat refine And.intro (by first | omega | assumption | exact rfl) ?_); refine aa _ ?_; clear aa K0; simp only [put, app, af, aj, zE, zS, E])
     refine aq ?_
     refine ⟨_, _, ?_, aY [1, 2, 4, 11, 12, 13], i + 1, by omega, fun q hq => ?_, rfl, rfl⟩
     · omega
     · by_cases e : q = i
       · rw [e]; exact sd fun c2 hc2 => by rw [hqc c2 (by omega)]; rfl
       · exact hqi q (by omega)
  ·(try simp only [zB, reduceCtorEq] at hc7)
   refine cm ?_
   refine hK2 _ ?_; clear hK2; refine ai [1, 2, 4, 11, 12, 13, 14] ?_; simp only [ad, lkp, zE, reduceCtorEq, J, ae, E]
   refine ah fun K27 hK27 => ?_
   refine ao hP hN rfl ?_
   iterate 3 (refine ag rfl fun K0 aa => ?_; simp only [zE, op1, ev, lkp, am, ak, cF, bl, aR, ax, bJ, Nat.mul_one, aM, acs, Ty.size, Ty.dflt, zG, reduceCtorEq, J, E, U, Z, V, Y, Tryd.fl51, Tryd.st51, Tryd.td4, Tryd.td51]; (repeat refine And.intro (by first | omega | assumption | exact rfl) ?_); (first | refine aa _ ?_ | refine Or.inl (aa _ ?_)); clear aa K0; simp only [put, app, af, aj, zE, zS, E])
   refine aq ?_
   refine hK27 _ ?_; clear hK27; refine ai [1, 2, 4, 5, 11, 12, 13, 14] ?_; simp only [ad, lkp, zE, reduceCtorEq, J, ae, E]
   refine aU ?_
   refine ⟨by first | exact .inl rfl | exact .inr rfl, _, rfl, ?_⟩; simp only [fzV, fz1, fzC, List.map_cons, List.map_nil, ad, lkp, zE, reduceCtorEq, J, ae, E]
   refine VLE.of_eq ?_
   first
   | (have e1 := m4 (by omega) (by omega) hp hqd
      have e2 : kU m cl (m.exR.getD i eX0).1 = some (c, d) := oW (k := c) (by omega) (fun q hq => by rw [hqc q hq]; rfl) (by rw [e1]; rfl)
      have e3 : cZ m cl = some (i, c, d) := oW (k := i) (by omega) (fun q hq => by rw [hqi q hq]; rfl) (by rw [e2]; rfl)
      rw [e3]; rfl)
   | (have e3 : cZ m cl = none := sd fun q hq => by rw [hqi q (by omega)]; rfl
      rw [e3]; rfl)
end Go.Proofs.YtceafldjjedhcaaDoor
namespace Go.Proofs.YtceafldjjedhcaaDoor
open Go Go.AV
open Nat renaming reduceEqDiff → J, reduceAdd → E, reduceLeDiff → U, reduceLT → Z, reduceMul → V, reduceSub → Y
open List renaming set_cons_zero → aw, set_cons_succ → au
theorem nX (m : Mly) (cl : List Int) (hk : COK m cl) (p : Nat × Nat × Nat) (b : Bool) (hb : (cZ m cl).isSome = b) (hp : b = true → cZ m cl = some p) (hn : b = false → p = (0, 0, 0)) : cq Tryd.prog 15 [.agg [.int .i64 m.inp, .int .i64 m.st, .list (.list (.int .i64)) m.nx, .list (.list (.int .i64)) m.ot, .list (.int .i64) (cE m.exR), .list (.list (.int .i64)) (dX m.exR), .list (.int .i64) m.eqc], .one (.list (.int .i64) cl)] (.tup [.agg [.int .i64 (p.1 : Int), .int .i64 (p.2.1 : Int), .int .i64 (p.2.2 : Int)], .one (.bool b)]) := by
  have h := uB m cl hk
  rw [hb] at h
  cases b with
  | true => rw [hp rfl, uP] at h; exact h
  | false =>
    have hfn : cZ m cl = none := by simpa using hb
    rw [hfn, vx] at h
    rw [hn rfl]; exact h

end Go.Proofs.YtceafldjjedhcaaDoor
namespace Go.Proofs.YtceafldjjedhcaaDoor
open Go Go.AV
open Nat renaming reduceEqDiff → J, reduceAdd → E, reduceLeDiff → U, reduceLT → Z, reduceMul → V, reduceSub → Y
open List renaming set_cons_zero → aw, set_cons_succ → au
set_option maxRecDepth 100000 in
theorem uk (m : Mly) (cl : List Int) (p : Nat × Nat × Nat) (c d : Nat) (hk : COK m cl) (hp : p.1 < m.exR.length ∧ p.2.1 < cl.length ∧ p.2.2 < cl.length) (hc : c < cl.length) (hd : d < cl.length) : cq Tryd.prog 24 [.one (.int .i64 (c : Int)), .one (.int .i64 (d : Int)), .one (.pat (.list (.int .i64)) cl 0), .one (.pat (.pair (.int .i64) (.pair (.int .i64) (.pair (.int .i64) .unit))) ((p.1 : Int), ((p.2.1 : Int), ((p.2.2 : Int), ()))) 0), .one (.pat (.pair (.pair (.int .i64) (.pair (.int .i64) (.pair (.list (.list (.int .i64))) (.pair (.list (.list (.int .i64))) .unit)))) (.pair (.list (.int .i64)) (.pair (.list (.list (.int .i64))) (.pair (.list (.int .i64)) .unit)))) ((m.inp, (m.st, (m.nx, (m.ot, ())))), (cE m.exR, (dX m.exR, (m.eqc, ())))) 0)] (.one (.bool (uQ m cl p c d))) := by
 have hm := hk.ok; have hlen := hk.len; have hwx := iy hm; have hfx := cS m.exR; have hgx := fI hp.1; have hat := hwx.at_ hp.1
 refine bt Tryd.func24 rfl (by kernel_rfl) (Nat.le_of_ble_eq_true rfl) rfl fun C hP hN hB => ?_
 replace hN : C.N = 41 := hN
 simp only [ae, E]
 refine ah fun K1 hK1 => ?_
 refine ao hP hN rfl ?_
 (refine ag rfl fun K0 aa => ?_; simp only [zE, op1, ev, lkp, am, ak, ev, reduceCtorEq, J, E, U, Z, V, Y, Tryd.td4, hgx]; refine aa _ ?_; clear aa K0; simp only [put, app, af, aj, zE, zS, E])
 refine aq ?_
 refine hK1 _ ?_; clear hK1; refine ai [0, 1, 2, 3, 4, 7] ?_; simp only [ad, lkp, zE, reduceCtorEq, J, ae, E]
 refine ah fun K2 hK2 => ?_
 refine cB hP hN Tryd.mixed rfl ?_
 iterate 9 (refine ag rfl fun K0 aa => ?_; simp only [zE, op1, ev, lkp, am, ak, aE, Nat.mul_one, aC, aD, acs, Ty.dflt, zG, az, aS, Ty.size, ne_eq, not_false_eq_true, Int.natCast_one, Int.mul_one, aJ, aK, aI, ay, aH, aX, reduceCtorEq, J, E, U, Z, V, Y, Tryd.el25, Tryd.td25, Tryd.td3, Tryd.td4, hgx]; (repeat refine And.intro (by first | omega | assumption | exact rfl) ?_); refine aa _ ?_; clear aa K0; simp only [put, app, af, aj, zE, zS, E])
 (refine ag rfl fun K0 aa => ?_; simp only [zE, op1, ev, lkp, am, ak, ev, reduceCtorEq, J, E, U, Z, V, Y, Tryd.td4, hgx]; refine aa _ ?_; clear aa K0; simp only [put, app, af, aj, zE, zS, E])
 refine' bn (want := true) 22 rfl (m := 17) (by simp only [ad, lkp, zE, reduceCtorEq, J, ae, E]; exact rfl) (by kernel_rfl) rfl rfl rfl rfl rfl (fun hg3 => ?a3) ?b3 ?c3
 case a3 =>
  have hq3 := hg3; (try simp only [zB, reduceCtorEq] at hg3); simp only [List.take_succ_cons, List.take_zero, List.cons_append, List.nil_append]
  (refine aG rfl fun K0 aa => ?_; simp only [zE, op1, ev, lkp, am, ak, aE, Nat.mul_one, aC, aD, acs, Ty.dflt, zG, az, reduceCtorEq, J, E, U, Z, V, Y, Tryd.el25, Tryd.td25, hgx]; (repeat refine And.intro (by first | omega | assumption | exact rfl) ?_); refine aa _ ?_; clear aa K0; simp only [put, app, af, aj, zE, zS, E])
  (refine aG rfl fun K0 aa => ?_; simp only [zE, op1, ev, lkp, am, ak, ev, reduceCtorEq, J, E, U, Z, V, Y, Tryd.td3, hgx]; refine aa _ ?_; clear aa K0; simp only [put, app, af, aj, zE, zS, E])
  (refine aG rfl fun K0 aa => ?_; simp only [zE, op1, ev, lkp, am, ak, aS, zG, Ty.dflt, Ty.size, Nat.mul_one, ne_eq, not_false_eq_true, Int.natCast_one, Int.mul_one, reduceCtorEq, J, E, U, Z, V, Y, Tryd.el25, Tryd.td25, hgx]; (repeat refine And.intro (by first | omega | assumption | exact rfl) ?_); refine aa _ ?_; clear aa K0; simp only [put, app, af, aj, zE, zS, E])
  (refine aG rfl fun K0 aa => ?_; simp only [zE, op1, ev, lkp, am, ak, aE, Nat.mul_one, aC, aD, acs, Ty.dflt, zG, az, reduceCtorEq, J, E, U, Z, V, Y, Tryd.td3, hgx]; (repeat refine And.intro (by first | omega | assumption | exact rfl) ?_); refine aa _ ?_; clear aa K0; simp only [put, app, af, aj, zE, zS, E])
  (refine aG rfl fun K0 aa => ?_; simp only [zE, op1, ev, lkp, am, ak, aE, Nat.mul_one, aC, aD, acs, Ty.dflt, zG, az, reduceCtorEq, J, E, U, Z, V, Y, Tryd.el25, Tryd.td25, hgx]; (repeat refine And.intro (by first | omega | assumption | exact rfl) ?_); refine aa _ ?_; clear aa K0; simp only [put, app, af, aj, zE, zS, E])
  (refine aG rfl fun K0 aa => ?_; simp only [zE, op1, ev, lkp, am, ak, aA, reduceCtorEq, J, E, U, Z, V, Y, Tryd.fl51, Tryd.st51, Tryd.td1, Tryd.td51, hgx]; (repeat refine And.intro (by first | omega | assumption | exact rfl) ?_); refine aa _ ?_; clear aa K0; simp only [put, app, af, aj, zE, zS, E])
  (refine aG rfl fun K0 aa => ?_; simp only [zE, op1, ev, lkp, am, ak, aE, Nat.mul_one, aC, aD, acs, Ty.dflt, zG, az, reduceCtorEq, J, E, U, Z, V, Y, Tryd.td3, hgx]; (repeat refine And.intro (by first | omega | assumption | exact rfl) ?_); refine aa _ ?_; clear aa K0; simp only [put, app, af, aj, zE, zS, E])
  (refine aG rfl fun K0 aa => ?_; simp only [zE, op1, ev, lkp, am, ak, aS, zG, Ty.dflt, Ty.size, Nat.mul_one, ne_eq, not_false_eq_true, Int.natCast_one, Int.mul_one, reduceCtorEq, J, E, U, Z, V, Y, Tryd.el25, Tryd.td25, hgx]; (repeat refine And.intro (by first | omega | assumption | exact rfl) ?_); refine aa _ ?_; clear aa K0; simp only [put, app, af, aj, zE, zS, E])
  (refine aG rfl fun K0 aa => ?_; simp only [zE, op1, ev, lkp, am, ak, aE, Nat.mul_one, aC, aD, acs, Ty.dflt, zG, az, reduceCtorEq, J, E, U, Z, V, Y, Tryd.td3, hgx]; (repeat refine And.intro (by first | omega | assumption | exact rfl) ?_); refine aa _ ?_; clear aa K0; simp only [put, app, af, aj, zE, zS, E])
  (refine aG rfl fun K0 aa => ?_; simp only [zE, op1, ev, lkp, am, ak, aJ, aK, aI, ay, aH, aX, reduceCtorEq, J, E, U, Z, V, Y, Tryd.td3, Tryd.td4, hgx]; (repeat refine And.intro (by first | omega | assumption | exact rfl) ?_); refine aa _ ?_; clear aa K0; simp only [put, app, af, aj, zE, zS, E])
  (refine aG rfl fun K0 aa => ?_; simp only [zE, op1, ev, lkp, am, ak, ev, reduceCtorEq, J, E, U, Z, V, Y, Tryd.td4, hgx]; refine aa _ ?_; clear aa K0; simp only [put, app, af, aj, zE, zS, E])
  refine' bn (want := false) 10 rfl (m := 28) (by simp only [ad, lkp, zE, reduceCtorEq, J, ae, E]; exact rfl) (by kernel_rfl) rfl rfl rfl rfl rfl (fun hg4 => ?a4) ?b4 ?c4
  case a4 =>
   have hq4 := hg4; (try simp only [zB, reduceCtorEq] at hg4); simp only [List.take_succ_cons, List.take_zero, List.cons_append, List.nil_append]
   (refine aG rfl fun K0 aa => ?_; simp only [zE, op1, ev, lkp, am, ak, aE, Nat.mul_one, aC, aD, acs, Ty.dflt, zG, az, reduceCtorEq, J, E, U, Z, V, Y, Tryd.st48, Tryd.td48, hgx]; (repeat refine And.intro (by first | omega | assumption | exact rfl) ?_); refine aa _ ?_; clear aa K0; simp only [put, app, af, aj, zE, zS, E])
   (refine aG rfl fun K0 aa => ?_; simp only [zE, op1, ev, lkp, am, ak, aA, reduceCtorEq, J, E, U, Z, V, Y, Tryd.st48, Tryd.td1, Tryd.td48, hgx]; (repeat refine And.intro (by first | omega | assumption | exact rfl) ?_); refine aa _ ?_; clear aa K0; simp only [put, app, af, aj, zE, zS, E])
   (refine aG rfl fun K0 aa => ?_; simp only [zE, op1, ev, lkp, am, ak, aE, Nat.mul_one, aC, aD, acs, Ty.dflt, zG, az, reduceCtorEq, J, E, U, Z, V, Y, Tryd.el25, Tryd.td25, hgx]; (repeat refine And.intro (by first | omega | assumption | exact rfl) ?_); refine aa _ ?_; clear aa K0; simp only [put, app, af, aj, zE, zS, E])
   (refine aG rfl fun K0 aa => ?_; simp only [zE, op1, ev, lkp, am, ak, aA, reduceCtorEq, J, E, U, Z, V, Y, Tryd.fl51, Tryd.st51, Tryd.td51, hgx]; (repeat refine And.intro (by first | omega | assumption | exact rfl) ?_); refine aa _ ?_; clear aa K0; simp only [put, app, af, aj, zE, zS, E])
   (refine aG rfl fun K0 aa => ?_; simp only [zE, op1, ev, lkp, am, ak, aE, Nat.mul_one, aC, aD, acs, Ty.dflt, zG, az, reduceCtorEq, J, E, U, Z, V, Y, Tryd.td3, hgx]; (repeat refine And.intro (by first | omega | assumption | exact rfl) ?_); refine aa _ ?_; clear aa K0; simp only [put, app, af, aj, zE, zS, E])
   (refine aG rfl fun K0 aa => ?_; simp only [zE, op1, ev, lkp, am, ak, aS, zG, Ty.dflt, Ty.size, Nat.mul_one, ne_eq, not_false_eq_true, Int.natCast_one, Int.mul_one, reduceCtorEq, J, E, U, Z, V, Y, Tryd.el25, Tryd.td25, hgx]; (repeat refine And.intro (by first | omega | assumption | exact rfl) ?_); refine aa _ ?_; clear aa K0; simp only [put, app, af, aj, zE, zS, E])
   (refine aG rfl fun K0 aa => ?_; simp only [zE, op1, ev, lkp, am, ak, aE, Nat.mul_one, aC, aD, acs, Ty.dflt, zG, az, reduceCtorEq, J, E, U, Z, V, Y, Tryd.td3, hgx]; (repeat refine And.intro (by first | omega | assumption | exact rfl) ?_); refine aa _ ?_; clear aa K0; simp only [put, app, af, aj, zE, zS, E])
   (refine aG rfl fun K0 aa => ?_; simp only [zE, op1, ev, lkp, am, ak, ev, reduceCtorEq, J, E, U, Z, V, Y, Tryd.td3, hgx]; refine aa _ ?_; clear aa K0; simp only [put, app, af, aj, zE, zS, E])
   (refine aG rfl fun K0 aa => ?_; simp only [zE, op1, ev, lkp, am, ak, ev, reduceCtorEq, J, E, U, Z, V, Y, Tryd.td3, hgx]; refine aa _ ?_; clear aa K0; simp only [put, app, af, aj, zE, zS, E])
   refine aG rfl fun K0 aa => ?_
   refine aW (h := aF (nq m m.exR (m.exR.getD p.1 eX0).1 c d hm hat (by omega) (by omega))) rfl rfl (by first | exact rfl | (simp only [ev, ad, lkp, zE, reduceCtorEq, J, ae, E]; exact rfl)) (by simp only [zE, zG, op1, ev, lkp, am, ak, ax, acs, bf, mv1, mvC, Ty.dflt, reduceCtorEq, J, E, U, Z, V, Y, hgx]) ?_
   refine aa _ ?_; clear aa K0; simp only [put, app, af, aj, zE, zS, E]
   (refine aG rfl fun K0 aa => ?_; simp only [zE, op1, ev, lkp, am, ak, bU, reduceCtorEq, J, E, U, Z, V, Y, Tryd.td4, hgx]; refine aa _ ?_; clear aa K0; simp only [put, app, af, aj, zE, zS, E])
   refine aq ?_
   refine ⟨by simp only [ad, lkp, zE, reduceCtorEq, J, ae, E]; exact rfl, rfl, ?_, rfl⟩; (repeat refine bo rfl ?_); exact bY (by exact rfl) hq4
  case b4 => exact bV (by first | rfl | (simp [cD]; done) | decide)
  simp only [bM, bB]
  (refine ag rfl fun K0 aa => ?_; simp only [zE, op1, ev, lkp, am, ak, bU, reduceCtorEq, J, E, U, Z, V, Y, Tryd.td4, hgx]; refine aa _ ?_; clear aa K0; simp only [put, app, af, aj, zE, zS, E])
  refine aq ?_
  refine ⟨by simp only [ad, lkp, zE, reduceCtorEq, J, ae, E]; exact rfl, rfl, ?_, rfl⟩; (repeat refine bo rfl ?_); exact bY (by exact rfl) hq3
 case b3 => exact bV (by first | rfl | (simp [cD]; done) | decide)
 simp only [bM, bB]
 (refine ag rfl fun K0 aa => ?_; simp only [zE, op1, ev, lkp, am, ak, ev, reduceCtorEq, J, E, U, Z, V, Y, Tryd.td4, hgx]; refine aa _ ?_; clear aa K0; simp only [put, app, af, aj, zE, zS, E])
 refine aq ?_
 refine ⟨by kernel_rfl, ?_⟩
 refine hK2 _ ?_; clear hK2; refine ai [0, 1, 2, 3, 4, 7] ?_; simp only [ad, lkp, zE, reduceCtorEq, J, ae, E]
 refine aU ?_
 refine ⟨by first | exact .inl rfl | exact .inr rfl, _, rfl, ?_⟩; simp only [fzV, fz1, fzC, List.map_cons, List.map_nil, ad, lkp, zE, reduceCtorEq, J, ae, E, hgx]
 refine VLE.of_eq ?_
 rfl
end Go.Proofs.YtceafldjjedhcaaDoor
namespace Go.Proofs.YtceafldjjedhcaaDoor
open Go Go.AV
open Nat renaming reduceEqDiff → J, reduceAdd → E, reduceLeDiff → U, reduceLT → Z, reduceMul → V, reduceSub → Y
open List renaming set_cons_zero → aw, set_cons_succ → au
set_option maxRecDepth 100000 in
set_option maxHeartbeats 1000000 in
theorem pH (m : Mly) (cl : List Int) : cq Tryd.prog 10 [m.av, .one (.list (.int .i64) cl)] (.tup [.one (.list (.int .i64) (nP m cl)), .one (.bool (eg m cl)), .one (.int .i64 (bE m cl))]) := by
 obtain ⟨p, hpt, hpn⟩ : ∃ p : Nat × Nat × Nat, ((cZ m cl).isSome = true → cZ m cl = some p) ∧ ((cZ m cl).isSome = false → p = (0, 0, 0)) := by
   cases hf : cZ m cl with
   | none => exact ⟨(0, 0, 0), fun h => by simp at h, fun _ => rfl⟩
   | some q => exact ⟨q, fun _ => rfl, fun h => by simp at h⟩
 refine bt Tryd.func10 rfl (by kernel_rfl) (Nat.le_of_ble_eq_true rfl) rfl fun C hP hN hB => ?_
 replace hN : C.N = 41 := hN
 simp only [ae, E]
 refine ah fun K1 hK1 => ?_
 refine ao hP hN rfl ?_
 iterate 5 (refine ag rfl fun K0 aa => ?_; simp only [zE, op1, ev, lkp, am, ak, dn, ax, reduceCtorEq, J, E, U, Z, V, Y, Tryd.el25, Tryd.st24, Tryd.td24, Tryd.td25, Tryd.td28, Tryd.td4, Mly.av]; (repeat refine And.intro (by first | omega | assumption | exact rfl) ?_); refine aa _ ?_; clear aa K0; simp only [put, app, af, aj, zE, zS, E])
 refine aq ?_
 refine hK1 _ ?_; clear hK1; refine ai [0, 1, 2, 3, 4, 5, 6] ?_; simp only [ad, lkp, zE, reduceCtorEq, J, ae, E]
 refine ah fun K2 hK2 => ?_
 refine ah fun K3 hK3 => ?_
 refine ao hP hN rfl ?_
 iterate 2 (refine ag rfl fun K0 aa => ?_; simp only [zE, op1, ev, lkp, am, ak, aE, Nat.mul_one, aC, aD, acs, Ty.dflt, zG, az, reduceCtorEq, J, E, U, Z, V, Y, Tryd.el25, Tryd.st24, Tryd.td24, Tryd.td25, Mly.av]; (repeat refine And.intro (by first | omega | assumption | exact rfl) ?_); refine aa _ ?_; clear aa K0; simp only [put, app, af, aj, zE, zS, E])
 refine ag rfl fun K0 aa => ?_
 refine aW (h := aF (tm m cl)) rfl rfl (by first | exact rfl | (simp only [ev, ad, lkp, zE, reduceCtorEq, J, ae, E]; exact rfl)) (by simp only [zE, zG, op1, ev, lkp, am, ak, ax, acs, bf, mv1, mvC, Ty.dflt, reduceCtorEq, J, E, U, Z, V, Y, Mly.av]) ?_
 refine aa _ ?_; clear aa K0; simp only [put, app, af, aj, zE, zS, E]
 (refine ag rfl fun K0 aa => ?_; simp only [zE, op1, ev, lkp, am, ak, ev, reduceCtorEq, J, E, U, Z, V, Y, Tryd.td28, Mly.av]; refine aa _ ?_; clear aa K0; simp only [put, app, af, aj, zE, zS, E])
 refine aq ?_
 refine hK3 _ ?_; clear hK3; refine ai [0, 1, 2, 3, 4, 5, 6, 7] ?_; simp only [ad, lkp, zE, reduceCtorEq, J, ae, E]
 refine ah fun K4 hK4 => ?_
 refine ao hP hN rfl ?_
 iterate 2 (refine ag rfl fun K0 aa => ?_; simp only [zE, op1, ev, lkp, am, ak, aJ, aK, aI, ay, aH, aX, reduceCtorEq, J, E, U, Z, V, Y, Tryd.td28, Tryd.td4, Mly.av]; (repeat refine And.intro (by first | omega | assumption | exact rfl) ?_); refine aa _ ?_; clear aa K0; simp only [put, app, af, aj, zE, zS, E])
 refine aq ?_
 refine hK4 _ ?_; clear hK4; refine ai [0, 1, 2, 3, 4, 5, 6, 7, 18] ?_; simp only [ad, lkp, zE, reduceCtorEq, J, ae, E]
 refine aL (by simp only [ev, ad, lkp, zE, reduceCtorEq, J, ae, E]; exact rfl) (fun hc5 => ?_) (fun hc5 => ?_)
 ·(try simp only [zB, reduceCtorEq] at hc5)
  refine ah fun K6 hK6 => ?_
  refine ao hP hN rfl ?_
  iterate 4 (refine ag rfl fun K0 aa => ?_; simp only [zE, op1, ev, lkp, am, ak, ev, reduceCtorEq, J, E, U, Z, V, Y, Tryd.el25, Tryd.td25, Tryd.td28, Tryd.td4, Mly.av]; refine aa _ ?_; clear aa K0; simp only [put, app, af, aj, zE, zS, E])
  refine aq ?_
  refine hK6 _ ?_; clear hK6; refine ai [0, 1, 2, 3, 4, 5, 6, 7, 18] ?_; simp only [ad, lkp, zE, reduceCtorEq, J, ae, E]
  refine aU ?_
  refine ⟨by first | exact .inl rfl | exact .inr rfl, _, rfl, ?_⟩; simp only [fzV, fz1, fzC, List.map_cons, List.map_nil, ad, lkp, zE, reduceCtorEq, J, ae, E, Mly.av]
  unfold nP eg
  first
  | (rw [if_neg ‹¬bE m cl = 0›, if_neg ‹¬bE m cl = 0›]; exact br ⟨aB (aQ rfl), aB (.refl _), aB (.refl _), trivial⟩)
  | (rw [if_pos ‹bE m cl = 0›, if_pos ‹bE m cl = 0›, ‹bE m cl = 0›, hfs]; exact VLE.of_eq rfl)
  | (rw [if_pos ‹bE m cl = 0›, if_pos ‹bE m cl = 0›, ‹bE m cl = 0›, hfn]; exact VLE.of_eq rfl)
 ·(try simp only [zB, reduceCtorEq] at hc5)
  refine aT ?_
  refine hK2 _ ?_; clear hK2; refine ai [0, 1, 2, 3, 4, 5, 6, 7, 18] ?_; simp only [ad, lkp, zE, reduceCtorEq, J, ae, E]
  refine ah fun K7 hK7 => ?_
  refine ao hP hN rfl ?_
  (refine ag rfl fun K0 aa => ?_; simp only [zE, op1, ev, lkp, am, ak, aE, Nat.mul_one, aC, aD, acs, Ty.dflt, zG, az, reduceCtorEq, J, E, U, Z, V, Y, Tryd.st24, Tryd.td24, Mly.av]; (repeat refine And.intro (by first | omega | assumption | exact rfl) ?_); refine aa _ ?_; clear aa K0; simp only [put, app, af, aj, zE, zS, E])
  refine ag rfl fun K0 aa => ?_
  refine aW (h := aF (je m (cI (fx (by assumption)).ok))) rfl rfl (by first | exact rfl | (simp only [ev, ad, lkp, zE, reduceCtorEq, J, ae, E]; exact rfl)) (by simp only [zE, zG, op1, ev, lkp, am, ak, ax, acs, bf, mv1, mvC, Ty.dflt, reduceCtorEq, J, E, U, Z, V, Y, Mly.av]) ?_
  refine aa _ ?_; clear aa K0; simp only [put, app, af, aj, zE, zS, E]
  iterate 2 (refine ag rfl fun K0 aa => ?_; simp only [zE, op1, ev, lkp, am, ak, cC, bJ, Nat.mul_one, ax, aR, aM, acs, Ty.size, Ty.dflt, zG, reduceCtorEq, J, E, U, Z, V, Y, Tryd.st48, Tryd.td48, Mly.av]; (repeat refine And.intro (by first | omega | assumption | exact rfl) ?_); (first | refine aa _ ?_ | refine Or.inl (aa _ ?_)); clear aa K0; simp only [put, app, af, aj, zE, zS, E])
  refine aq ?_
  refine hK7 _ ?_; clear hK7; refine ai [0, 1, 2, 3, 4, 5, 6, 7, 8, 18] ?_; simp only [ad, lkp, zE, reduceCtorEq, J, ae, E]
  refine ah fun K8 hK8 => ?_
  refine ao hP hN rfl ?_
  iterate 2 (refine ag rfl fun K0 aa => ?_; simp only [zE, op1, ev, lkp, am, ak, aE, Nat.mul_one, aC, aD, acs, Ty.dflt, zG, az, reduceCtorEq, J, E, U, Z, V, Y, Tryd.el25, Tryd.st48, Tryd.td25, Tryd.td48, Mly.av]; (repeat refine And.intro (by first | omega | assumption | exact rfl) ?_); refine aa _ ?_; clear aa K0; simp only [put, app, af, aj, zE, zS, E])
  refine ag rfl fun K0 aa => ?_
  refine aW (h := aF (nX m cl (fx (by assumption)) p _ rfl hpt hpn)) rfl rfl (by first | exact rfl | (simp only [ev, ad, lkp, zE, reduceCtorEq, J, ae, E]; exact rfl)) (by simp only [zE, zG, op1, ev, lkp, am, ak, ax, acs, bf, mv1, mvC, Ty.dflt, reduceCtorEq, J, E, U, Z, V, Y, Mly.av]) ?_
  refine aa _ ?_; clear aa K0; simp only [put, app, af, aj, zE, zS, E]
  iterate 6 (refine ag rfl fun K0 aa => ?_; simp only [zE, op1, ev, lkp, am, ak, bS, cC, bJ, Nat.mul_one, ax, aR, aM, acs, Ty.size, Ty.dflt, zG, reduceCtorEq, J, E, U, Z, V, Y, Tryd.fl51, Tryd.st51, Tryd.td1, Tryd.td4, Tryd.td51, Mly.av]; (repeat refine And.intro (by first | omega | assumption | exact rfl) ?_); (first | refine aa _ ?_ | refine Or.inl (aa _ ?_)); clear aa K0; simp only [put, app, af, aj, zE, zS, E])
  refine aq ?_
  refine hK8 _ ?_; clear hK8; refine ai [0, 1, 2, 3, 4, 5, 6, 7, 8, 9, 10, 18] ?_; simp only [ad, lkp, zE, reduceCtorEq, J, ae, E]
  refine ah fun K9 hK9 => ?_
  refine ah fun K10 hK10 => ?_
  refine ao hP hN rfl ?_
  iterate 2 (refine ag rfl fun K0 aa => ?_; simp only [zE, op1, ev, lkp, am, ak, fw, reduceCtorEq, J, E, U, Z, V, Y, Tryd.td4, Mly.av]; (repeat refine And.intro (by first | omega | assumption | exact rfl) ?_); refine aa _ ?_; clear aa K0; simp only [put, app, af, aj, zE, zS, E])
  refine aq ?_
  refine hK10 _ ?_; clear hK10; refine ai [0, 1, 2, 3, 4, 5, 6, 7, 8, 9, 10, 18, 29] ?_; simp only [ad, lkp, zE, reduceCtorEq, J, ae, E]
  refine aL (by simp only [ev, ad, lkp, zE, reduceCtorEq, J, ae, E]; exact rfl) (fun hc11 => ?_) (fun hc11 => ?_)
  ·(try simp only [zB, reduceCtorEq] at hc11)
   have hfn : cZ m cl = none := by simpa using hc11
   refine ah fun K12 hK12 => ?_
   refine ao hP hN rfl ?_
   (refine ag rfl fun K0 aa => ?_; simp only [zE, op1, ev, lkp, am, ak, aE, Nat.mul_one, aC, aD, acs, Ty.dflt, zG, az, reduceCtorEq, J, E, U, Z, V, Y, Tryd.el25, Tryd.td25, Mly.av]; (repeat refine And.intro (by first | omega | assumption | exact rfl) ?_); refine aa _ ?_; clear aa K0; simp only [put, app, af, aj, zE, zS, E])
   refine ag rfl fun K0 aa => ?_
   refine aW (h := aF (n9 cl (by have := (rR (fx (m := m) (cl := cl) (by assumption)).ce).1; omega))) rfl rfl (by first | exact rfl | (simp only [ev, ad, lkp, zE, reduceCtorEq, J, ae, E]; exact rfl)) (by simp only [zE, zG, op1, ev, lkp, am, ak, ax, acs, bf, mv1, mvC, Ty.dflt, reduceCtorEq, J, E, U, Z, V, Y, Mly.av]) ?_
   refine aa _ ?_; clear aa K0; simp only [put, app, af, aj, zE, zS, E]
   iterate 3 (refine ag rfl fun K0 aa => ?_; simp only [zE, op1, ev, lkp, am, ak, ev, reduceCtorEq, J, E, U, Z, V, Y, Tryd.el25, Tryd.td25, Tryd.td28, Tryd.td4, Mly.av]; refine aa _ ?_; clear aa K0; simp only [put, app, af, aj, zE, zS, E])
   refine aq ?_
   refine hK12 _ ?_; clear hK12; refine ai [0, 1, 2, 3, 4, 5, 6, 7, 8, 9, 10, 18, 29] ?_; simp only [ad, lkp, zE, reduceCtorEq, J, ae, E]
   refine aU ?_
   refine ⟨by first | exact .inl rfl | exact .inr rfl, _, rfl, ?_⟩; simp only [fzV, fz1, fzC, List.map_cons, List.map_nil, ad, lkp, zE, reduceCtorEq, J, ae, E, Mly.av]
   unfold nP eg
   first
   | (rw [if_neg ‹¬bE m cl = 0›, if_neg ‹¬bE m cl = 0›]; exact br ⟨aB (aQ rfl), aB (.refl _), aB (.refl _), trivial⟩)
   | (rw [if_pos ‹bE m cl = 0›, if_pos ‹bE m cl = 0›, ‹bE m cl = 0›, hfs]; exact VLE.of_eq rfl)
   | (rw [if_pos ‹bE m cl = 0›, if_pos ‹bE m cl = 0›, ‹bE m cl = 0›, hfn]; exact VLE.of_eq rfl)
  ·(try simp only [zB, reduceCtorEq] at hc11)
   have hfs : cZ m cl = some p := hpt (by simpa using hc11)
   refine aT ?_
   refine hK9 _ ?_; clear hK9; refine ai [0, 1, 2, 3, 4, 5, 6, 7, 8, 9, 10, 18, 29] ?_; simp only [ad, lkp, zE, reduceCtorEq, J, ae, E]
   refine ah fun K13 hK13 => ?_
   refine dO 1 (.list (.int .i64)) rfl rfl ?_; simp only [List.map_cons, List.map_nil, shV, if_true, zS, if_false, eq_self, J, reduceCtorEq, Nat.one_ne_zero, Nat.zero_ne_one]
   refine dO 2 (.pair (.pair (.int .i64) (.pair (.int .i64) (.pair (.list (.list (.int .i64))) (.pair (.list (.list (.int .i64))) .unit)))) (.pair (.list (.int .i64)) (.pair (.list (.list (.int .i64))) (.pair (.list (.int .i64)) .unit)))) rfl rfl ?_; simp only [List.map_cons, List.map_nil, shV, if_true, zS, if_false, eq_self, J, reduceCtorEq, Nat.one_ne_zero, Nat.zero_ne_one]
   refine dO 3 (.pair (.int .i64) (.pair (.int .i64) (.pair (.int .i64) .unit))) rfl rfl ?_; simp only [List.map_cons, List.map_nil, shV, if_true, zS, if_false, eq_self, J, reduceCtorEq, Nat.one_ne_zero, Nat.zero_ne_one]
   have hk := fx (m := m) (cl := cl) (by assumption); have hlen := hk.len; have hi1 := hk.ok.i1; have hi2 := hk.ok.i2; have hin : m.inp = ((m.inp.toNat : Nat) : Int) := by omega
   have hps := jn hfs
   refine ao hP hN rfl ?_
   iterate 2 (refine ag rfl fun K0 aa => ?_; simp only [zE, op1, ev, lkp, am, ak, eH, fA, jq, reduceCtorEq, J, E, U, Z, V, Y, Tryd.td71, Mly.av]; (repeat refine And.intro (by first | omega | assumption | exact rfl) ?_); (first | refine aa _ ?_ | refine Or.inl (aa _ ?_)); clear aa K0; simp only [put, app, af, aj, zE, zS, E])
   refine aq ?_
   refine hK13 _ ?_; clear hK13; refine ai [0, 1, 2, 3, 4, 5, 6, 7, 8, 9, 10, 11, 18, 29] ?_; simp only [ad, lkp, zE, reduceCtorEq, J, ae, E]
   refine ah fun K14 hK14 => ?_
   refine ao hP hN rfl ?_
   iterate 3 (refine ag rfl fun K0 aa => ?_; simp only [zE, op1, ev, lkp, am, ak, aA, aE, Nat.mul_one, aC, aD, acs, Ty.dflt, zG, az, reduceCtorEq, J, E, U, Z, V, Y, Tryd.st24, Tryd.td24, Tryd.td3, Tryd.td71, Mly.av]; (repeat refine And.intro (by first | omega | assumption | exact rfl) ?_); refine aa _ ?_; clear aa K0; simp only [put, app, af, aj, zE, zS, E])
   refine ag rfl fun K0 aa => ?_
   refine aW (h := aF (t8 m m.inp.toNat 24 [⟨.list (.int .i64), cl⟩, ⟨(.pair (.int .i64) (.pair (.int .i64) (.pair (.int .i64) .unit))), ((p.1 : Int), ((p.2.1 : Int), ((p.2.2 : Int), ())))⟩, ⟨(.pair (.pair (.int .i64) (.pair (.int .i64) (.pair (.list (.list (.int .i64))) (.pair (.list (.list (.int .i64))) .unit)))) (.pair (.list (.int .i64)) (.pair (.list (.list (.int .i64))) (.pair (.list (.int .i64)) .unit)))), ((m.inp, (m.st, (m.nx, (m.ot, ())))), (cE m.exR, (dX m.exR, (m.eqc, ()))))⟩] (uQ m cl p) (by omega) hin (fun d c hd hc => uk m cl p d c hk hps.1 (by omega) (by omega)))) rfl rfl (by first | exact rfl | (simp only [ev, ad, lkp, zE, reduceCtorEq, J, ae, E]; exact rfl)) (by simp only [zE, zG, op1, ev, lkp, am, ak, ax, acs, bf, mv1, mvC, Ty.dflt, reduceCtorEq, J, E, U, Z, V, Y, Mly.av]) ?_
   refine aa _ ?_; clear aa K0; simp only [put, app, af, aj, zE, zS, E]
   iterate 5 (refine ag rfl fun K0 aa => ?_; simp only [zE, op1, ev, lkp, am, ak, bS, reduceCtorEq, J, E, U, Z, V, Y, Tryd.el25, Tryd.td1, Tryd.td25, Tryd.td3, Mly.av]; refine aa _ ?_; clear aa K0; simp only [put, app, af, aj, zE, zS, E])
   refine aq ?_
   refine hK14 _ ?_; clear hK14; refine ai [0, 1, 2, 3, 4, 5, 6, 7, 8, 9, 10, 11, 12, 18, 29] ?_; simp only [ad, lkp, zE, reduceCtorEq, J, ae, E]
   refine ah fun K15 hK15 => ?_
   refine ao hP hN rfl ?_
   iterate 4 (refine ag rfl fun K0 aa => ?_; simp only [zE, op1, ev, lkp, am, ak, ev, reduceCtorEq, J, E, U, Z, V, Y, Tryd.el25, Tryd.td25, Tryd.td28, Tryd.td4, Mly.av]; refine aa _ ?_; clear aa K0; simp only [put, app, af, aj, zE, zS, E])
   refine aq ?_
   refine hK15 _ ?_; clear hK15; refine ai [0, 1, 2, 3, 4, 5, 6, 7, 8, 9, 10, 11, 12, 18, 29] ?_; simp only [ad, lkp, zE, reduceCtorEq, J, ae, E]
   refine aU ?_
   refine ⟨by first | exact .inl rfl | exact .inr rfl, _, rfl, ?_⟩; simp only [fzV, fz1, fzC, List.map_cons, List.map_nil, ad, lkp, zE, reduceCtorEq, J, ae, E, Mly.av]
   unfold nP eg
   first
   | (rw [if_neg ‹¬bE m cl = 0›, if_neg ‹¬bE m cl = 0›]; exact br ⟨aB (aQ rfl), aB (.refl _), aB (.refl _), trivial⟩)
   | (rw [if_pos ‹bE m cl = 0›, if_pos ‹bE m cl = 0›, ‹bE m cl = 0›, hfs]; exact VLE.of_eq rfl)
   | (rw [if_pos ‹bE m cl = 0›, if_pos ‹bE m cl = 0›, ‹bE m cl = 0›, hfn]; exact VLE.of_eq rfl)
end Go.Proofs.YtceafldjjedhcaaDoor
namespace Go.Proofs.YtceafldjjedhcaaDoor
open Go Go.AV
open Nat renaming reduceEqDiff → J, reduceAdd → E, reduceLeDiff → U, reduceLT → Z, reduceMul → V, reduceSub → Y
open List renaming set_cons_zero → aw, set_cons_succ → au
theorem xp : cq Tryd.prog 10 [d9.av, .one (.list (.int .i64) [0, 0])] (.tup [.one (.list (.int .i64) [0, 1]), .one (.bool true), .one (.int .i64 0)]) := by
  have h := pH d9 [0, 0]
  rw [show nP d9 [0, 0] = [0, 1] by decide +kernel, show eg d9 [0, 0] = true by decide +kernel, show bE d9 [0, 0] = 0 by decide +kernel] at h
  exact h

end Go.Proofs.YtceafldjjedhcaaDoor
namespace Go.Proofs.YtceafldjjedhcaaDoor
open Go Go.AV
open Nat renaming reduceEqDiff → J, reduceAdd → E, reduceLeDiff → U, reduceLT → Z, reduceMul → V, reduceSub → Y
open List renaming set_cons_zero → aw, set_cons_succ → au
theorem xt : cq Tryd.prog 10 [d9.av, .one (.list (.int .i64) [0, 1])] (.tup [.one (.list (.int .i64) [0, 1]), .one (.bool false), .one (.int .i64 0)]) := by
  have h := pH d9 [0, 1]
  rw [show nP d9 [0, 1] = [0, 1] by decide +kernel, show eg d9 [0, 1] = false by decide +kernel, show bE d9 [0, 1] = 0 by decide +kernel] at h
  exact h

end Go.Proofs.YtceafldjjedhcaaDoor
namespace Go.AV
open Nat renaming reduceEqDiff → J, reduceAdd → E, reduceLeDiff → U, reduceLT → Z, reduceMul → V, reduceSub → Y
open List renaming set_cons_zero → aw, set_cons_succ → au
/-plain-/
theorem mn {α β : Type} {f : α → β} {l : List α} {i : Nat} (d : α) (e : β) (h : i < l.length) : (l.map f).getD i e = f (l.getD i d) := by simp [List.getD, h]
/-- The separating word of two states. -/
def uF (m : Mly) (s t : Int) : Prop := bj m = 0 ∧ (0 ≤ s ∧ s < m.nx.length) ∧ 0 ≤ t ∧ t < m.nx.length
instance (m : Mly) (s t : Int) : Decidable (uF m s t) := by unfold uF; exact inferInstance
def stW (m : Mly) (s t : Int) : Option (List Int) := if bj m = 0 ∧ (0 ≤ s ∧ s < m.nx.length) ∧ 0 ≤ t ∧ t < m.nx.length then seS m m s t else none
def stE (m : Mly) (s t : Int) : Int := if bj m = 0 then if (0 ≤ s ∧ s < m.nx.length) ∧ 0 ≤ t ∧ t < m.nx.length then 0 else 2 else bj m
theorem sH {l : List S3} {i : Nat} (h : i < l.length) : l.getD i eS0 ∈ l := by simp [List.getD, h]
end Go.AV
namespace Go.AV
open Nat renaming reduceEqDiff → J, reduceAdd → E, reduceLeDiff → U, reduceLT → Z, reduceMul → V, reduceSub → Y
open List renaming set_cons_zero → aw, set_cons_succ → au
/-plain-/
/-- Which second states were seen with a first one. -/
def snS (l : List S3) (m s : Nat) : List Bool := (List.range m).map fun (t : Nat) => inS l (s : Int) (t : Int)
theorem vt (l : List S3) (m s : Nat) : (snS l m s).length = m := by simp [snS]
theorem wE {l : List S3} {m : Nat} {p q : Int} (hp : 0 ≤ p) (hq : 0 ≤ q ∧ q < m) : (snS l m p.toNat).getD q.toNat false = inS l p q := by
  have : q.toNat < m := by omega
  unfold snS
  rw [lR _ _ this, Int.toNat_of_nonneg hp, Int.toNat_of_nonneg hq.1]
theorem qw {l : List S3} {m : Nat} {p q : Int} {w : List Int} (hp : 0 ≤ p) (hq : 0 ≤ q ∧ q < m) : snS (l ++ [(p, q, w)]) m p.toNat = (snS l m p.toNat).set q.toNat true := by
  apply List.ext_getElem
  · simp [snS]
  · intro i h1 h2
    simp only [snS, List.getElem_set, List.getElem_map, List.getElem_range, inS, List.any_append, List.any_cons, List.any_nil, Bool.or_false]
    by_cases e : q.toNat = i
    · rw [if_pos e]
      have : q = (i : Int) := by omega
      simp [this, Int.toNat_of_nonneg hp]
    · rw [if_neg e]
      have : ¬ q = (i : Int) := by omega
      simp [this]
theorem mZ {l : List S3} {m j : Nat} {p q : Int} {w : List Int} (hp : 0 ≤ p) (hj : j ≠ p.toNat) : snS (l ++ [(p, q, w)]) m j = snS l m j := by
  unfold snS
  refine List.map_congr_left fun t _ => ?_
  have : ¬ p = (j : Int) := by omega
  simp [inS, List.any_append, this]
theorem qy (m s : Nat) : List.replicate m false = snS [] m s := by
  apply List.ext_getElem <;> simp [snS, inS]
end Go.AV
namespace Go.AV
open Nat renaming reduceEqDiff → J, reduceAdd → E, reduceLeDiff → U, reduceLT → Z, reduceMul → V, reduceSub → Y
open List renaming set_cons_zero → aw, set_cons_succ → au
/-plain-/
theorem oM {cs : List AC} {off : Nat} {c : AC} (h : off < cs.length) : aR cs off [c] = cs.set off c := by
  unfold aR
  rw [List.set_eq_take_append_cons_drop, if_pos h]
  simp
end Go.AV
