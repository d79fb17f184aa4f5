/- Contracts of functions of this seat, each out of a walk through its code, and plain facts on what they compute. Conditions: those that each theorem names. -/
import Derived.Test.YtceafldjjedhcaaDoorW01
set_option linter.unusedSimpArgs false
set_option linter.unusedVariables false
namespace Go.Proofs.YtceafldjjedhcaaDoor
open Go Go.AV
open Nat renaming reduceEqDiff → J, reduceAdd → E, reduceLeDiff → U, reduceLT → Z, reduceMul → V, reduceSub → Y
open List renaming set_cons_zero → aw, set_cons_succ → au
set_option maxRecDepth 100000 in
set_option maxHeartbeats 1000000 in
theorem tQ (a b : Mly) (s t : Int) (ha : MOK a) (hb : MOK b) (hi : a.inp = b.inp) (hs : 0 ≤ s ∧ s < a.nx.length) (ht : 0 ≤ t ∧ t < b.nx.length) : cq Tryd.prog 33 [a.av, b.av, .agg [.int .i64 s, .int .i64 t]] (.tup [.one (.list (.int .i64) ((seS a b s t).getD [])), .one (.bool (seS a b s t).isSome)]) := by
 have hai1 := ha.i1; have hai2 := ha.i2; have han2 := ha.n2; have hbn2 := hb.n2; have hao := ha.ol; have hbo := hb.ol; have hfu : fuS a b = a.nx.length * b.nx.length + 1 := rfl
 refine bt Tryd.func33 rfl (by kernel_rfl) (Nat.le_of_ble_eq_true rfl) rfl fun C hP hN hB => ?_
 replace hN : C.N = 144 := hN
 simp only [ae, E]
 refine ah fun K1 hK1 => ?_
 refine ao hP hN rfl ?_
 iterate 5 (refine ag rfl fun K0 aa => ?_; simp only [zE, op1, ev, lkp, am, ak, dn, ax, reduceCtorEq, J, E, U, Z, V, Y, Tryd.el25, Tryd.fl82, Tryd.st24, Tryd.st82, Tryd.td24, Tryd.td25, Tryd.td4, Tryd.td82, Mly.av, List.length_map, aZ, bm, be, bc, List.length_append, bK, bH, List.length_replicate, List.getD_cons_zero]; (repeat refine And.intro (by first | omega | assumption | exact rfl) ?_); refine aa _ ?_; clear aa K0; simp only [put, app, af, aj, zE, zS, E, List.append_assoc, bg, bb, ba])
 refine aq ?_
 refine hK1 _ ?_; clear hK1; refine ai [0, 1, 2, 3, 4, 5, 6, 7] ?_; simp only [ad, lkp, zE, reduceCtorEq, J, ae, E]
 refine ah fun K2 hK2 => ?_
 refine ao hP hN rfl ?_
 iterate 3 (refine ag rfl fun K0 aa => ?_; simp only [zE, op1, ev, lkp, am, ak, aA, aE, Nat.mul_one, aC, aD, acs, Ty.dflt, zG, az, aP, bT, bC, bu, bv, bP, Nat.div_one, aV, bz, Ty.size, aM, dite_true, reduceCtorEq, J, E, U, Z, V, Y, Tryd.el22, Tryd.st24, Tryd.td2, Tryd.td22, Tryd.td24, Tryd.td3, Mly.av, List.length_map, aZ, bm, be, bc, List.length_append, bK, bH, List.length_replicate, List.getD_cons_zero]; (repeat refine And.intro (by first | omega | assumption | exact rfl) ?_); (first | refine aa _ ?_ | refine Or.inl (aa _ ?_)); clear aa K0; simp only [put, app, af, aj, zE, zS, E, List.append_assoc, bg, bb, ba])
 (refine ag rfl fun K0 aa => ?_; simp only [zE, op1, ev, lkp, am, ak, dr, aM, Ty.size, Ty.dflt, reduceCtorEq, J, E, U, Z, V, Y, Tryd.el90, Tryd.td90, Mly.av, List.length_map, aZ, bm, be, bc, List.length_append, bK, bH, List.length_replicate, List.getD_cons_zero]; (repeat refine And.intro (by first | omega | assumption | exact rfl) ?_); refine Or.inr (Or.inl (aa _ ?_)); clear aa K0; simp only [put, app, af, aj, zE, zS, E, List.append_assoc, bg, bb, ba])
 (refine ag rfl fun K0 aa => ?_; simp only [zE, op1, ev, lkp, am, ak, ev, reduceCtorEq, J, E, U, Z, V, Y, Tryd.el90, Tryd.td90, Mly.av, List.length_map, aZ, bm, be, bc, List.length_append, bK, bH, List.length_replicate, List.getD_cons_zero]; refine aa _ ?_; clear aa K0; simp only [put, app, af, aj, zE, zS, E, List.append_assoc, bg, bb, ba])
 refine aq ?_
 refine hK2 _ ?_; clear hK2; refine ai [0, 1, 2, 3, 4, 5, 6, 7, 8] ?_; simp only [ad, lkp, zE, reduceCtorEq, J, ae, E]
 refine ah fun K3 hK3 => ?_
 refine ah fun K4 hK4 => ?_
 refine ao hP hN rfl ?_
 iterate 3 (refine ag rfl fun K0 aa => ?_; simp only [zE, op1, ev, lkp, am, ak, aP, bT, bC, bu, bv, bP, Nat.div_one, aV, bz, Ty.size, aM, dite_true, reduceCtorEq, J, E, U, Z, V, Y, Tryd.el90, Tryd.td3, Tryd.td90, Mly.av, List.length_map, aZ, bm, be, bc, List.length_append, bK, bH, List.length_replicate, List.getD_cons_zero]; (repeat refine And.intro (by first | omega | assumption | exact rfl) ?_); (first | refine aa _ ?_ | refine Or.inl (aa _ ?_)); clear aa K0; simp only [put, app, af, aj, zE, zS, E, List.append_assoc, bg, bb, ba])
 refine aq ?_
 refine hK4 _ ?_; clear hK4; refine ai [0, 1, 2, 3, 4, 5, 6, 7, 8, 20, 21] ?_; simp only [ad, lkp, zE, reduceCtorEq, J, ae, E]
 refine b8 ?_
 refine cj (fun n5 s5 => ∃ (k : Nat), (k ≤ a.nx.length) ∧ n5 = a.nx.length - k ∧ s5 = { env := [(3, .one (.ptr 0 0 0 0)), (4, .one (.ptr 1 0 0 0)), (5, .one (.ptr 2 0 0 0)), (8, .one (.rwc 3 0)), (20, .one (.int .i64 (a.nx.length : Int))), (21, .one (.int .i64 (k : Int)))], L := .vars 24 [.int .i64 a.inp, .int .i64 a.st, .list (.list (.int .i64)) a.nx, .list (.list (.int .i64)) a.ot] :: .vars 24 [.int .i64 b.inp, .int .i64 b.st, .list (.list (.int .i64)) b.nx, .list (.list (.int .i64)) b.ot] :: .vars 82 [.int .i64 s, .int .i64 t] :: .rowc 91 1 0 (g0 (fun i => AC.row (i + 1 + 1 + 1 + 1) 0) .nils a.nx.length k) :: cO 4 (fun _ => List.replicate b.nx.length false) k }) ?_ ?_
 ·refine ⟨_, _, aY [3, 4, 5, 8, 20, 21], 0, Nat.zero_le _, rfl, ?_⟩
  rw [mb, ← bH]; rfl
 ·rintro n5 s5 ⟨k, hk, rfl, rfl⟩
  refine ah fun K6 hK6 => ?_
  refine ao hP hN rfl ?_
  (refine ag rfl fun K0 aa => ?_; simp only [zE, op1, ev, lkp, am, ak, aJ, aK, aI, ay, aH, aX, reduceCtorEq, J, E, U, Z, V, Y, Tryd.td3, Mly.av, List.length_map, aZ, bm, be, bc, List.length_append, bK, bH, List.length_replicate, List.getD_cons_zero]; (repeat refine And.intro (by first | omega | assumption | exact rfl) ?_); refine aa _ ?_; clear aa K0; simp only [put, app, af, aj, zE, zS, E, List.append_assoc, bg, bb, ba])
  refine aq ?_
  refine hK6 _ ?_; clear hK6; refine ai [3, 4, 5, 8, 20, 21, 22] ?_; simp only [ad, lkp, zE, reduceCtorEq, J, ae, E]
  refine ah fun K7 hK7 => ?_
  refine aL (by simp only [ev, ad, lkp, zE, reduceCtorEq, J, ae, E]; exact rfl) (fun hc8 => ?_) (fun hc8 => ?_)
  ·(try simp only [zB, reduceCtorEq] at hc8)
   refine aT ?_
   refine hK7 _ ?_; clear hK7; refine ai [3, 4, 5, 8, 20, 21, 22] ?_; simp only [ad, lkp, zE, reduceCtorEq, J, ae, E]
   refine ah fun K9 hK9 => ?_
   refine b8 ?_
   refine ah fun K10 hK10 => ?_
   refine ao hP hN rfl ?_
   iterate 2 (refine ag rfl fun K0 aa => ?_; simp only [zE, op1, ev, lkp, am, ak, ev, reduceCtorEq, J, E, U, Z, V, Y, Tryd.td3, Mly.av, List.length_map, aZ, bm, be, bc, List.length_append, bK, bH, List.length_replicate, List.getD_cons_zero]; refine aa _ ?_; clear aa K0; simp only [put, app, af, aj, zE, zS, E, List.append_assoc, bg, bb, ba])
   refine aq ?_
   refine hK10 _ ?_; clear hK10; refine ai [3, 4, 5, 8, 9, 20, 21, 22] ?_; simp only [ad, lkp, zE, reduceCtorEq, J, ae, E]
   have hsf := oe (fun i => AC.row (i + 1 + 1 + 1 + 1) 0) .nils (n := a.nx.length) (k := k) (by omega); have hw : ∀ c, aR (g0 (fun i => AC.row (i + 1 + 1 + 1 + 1) 0) .nils a.nx.length k) k [c] = (g0 (fun i => AC.row (i + 1 + 1 + 1 + 1) 0) .nils a.nx.length k).set k c := fun c => oM (by omega)
   refine ao hP hN rfl ?_
   iterate 8 (refine ag rfl fun K0 aa => ?_; simp only [zE, op1, ev, lkp, am, ak, aA, aE, Nat.mul_one, aC, aD, acs, Ty.dflt, zG, az, aP, bT, bC, bu, bv, bP, Nat.div_one, aV, bz, Ty.size, aM, dite_true, dr, aS, ne_eq, not_false_eq_true, Int.natCast_one, Int.mul_one, bJ, ax, reduceCtorEq, J, E, U, Z, V, Y, Tryd.el22, Tryd.el90, Tryd.el91, Tryd.st24, Tryd.td2, Tryd.td22, Tryd.td24, Tryd.td3, Tryd.td90, Tryd.td91, Mly.av, List.length_map, aZ, bm, be, bc, List.length_append, bK, bH, List.length_replicate, List.getD_cons_zero, hsf, hw]; (repeat refine And.intro (by first | omega | assumption | exact rfl) ?_); (first | refine aa _ ?_ | refine Or.inl (aa _ ?_)); clear aa K0; simp only [put, app, af, aj, zE, zS, E, List.append_assoc, bg, bb, ba])
   refine aq ?_
   refine hK9 _ ?_; clear hK9; refine ai [3, 4, 5, 8, 9, 20, 21, 22] ?_; simp only [ad, lkp, zE, reduceCtorEq, J, ae, E]
   refine ao hP hN rfl ?_
   iterate 2 (refine ag rfl fun K0 aa => ?_; simp only [zE, op1, ev, lkp, am, ak, aJ, aK, aI, ay, aH, aX, reduceCtorEq, J, E, U, Z, V, Y, Tryd.td3, Mly.av, List.length_map, aZ, bm, be, bc, List.length_append, bK, bH, List.length_replicate, List.getD_cons_zero]; (repeat refine And.intro (by first | omega | assumption | exact rfl) ?_); refine aa _ ?_; clear aa K0; simp only [put, app, af, aj, zE, zS, E, List.append_assoc, bg, bb, ba])
   refine aq ?_
   refine ⟨_, _, ?_, aY [3, 4, 5, 8, 20, 21], k + 1, by omega, rfl, ?_⟩
   · omega
   · rw [← gA _ _ (by omega), qO]; rfl
  ·(try simp only [zB, reduceCtorEq] at hc8)
   refine cm ?_
   refine hK3 _ ?_; clear hK3; refine ai [3, 4, 5, 8, 20, 21, 22] ?_; simp only [ad, lkp, zE, reduceCtorEq, J, ae, E]
   refine ah fun K11 hK11 => ?_
   have hkn : k = a.nx.length := by omega
   subst hkn
   rw [nS]
   have hg0 := qP (n := a.nx.length) (i := s.toNat) (by omega); have hr0 := rr (e := 4) (f := fun _ => List.replicate b.nx.length false) (n := a.nx.length) (i := s.toNat) (by omega)
   have hst : (cO 4 (fun _ => List.replicate b.nx.length false) a.nx.length).set s.toNat (.row .bool 4 0 ((List.replicate b.nx.length false).set t.toNat true)) = cO 4 (snS [(s, t, [])] b.nx.length) a.nx.length := ju (by omega) (by rw [qy b.nx.length s.toNat]; exact qw (l := []) hs.1 ht) (fun j hj hne => by rw [qy b.nx.length j]; exact mZ (l := []) hs.1 hne)
   rw [show (List.range a.nx.length).map (fun i => AC.row (i + 1 + 1 + 1 + 1) 0) = gcs a.nx.length from rfl]
   refine cB hP hN Tryd.mixed rfl ?_
   iterate 9 (refine ag rfl fun K0 aa => ?_; simp only [zE, op1, ev, lkp, am, ak, aA, aE, Nat.mul_one, aC, aD, acs, Ty.dflt, zG, az, aS, Ty.size, ne_eq, not_false_eq_true, Int.natCast_one, Int.mul_one, bJ, ax, aR, aM, reduceCtorEq, J, E, U, Z, V, Y, Tryd.el90, Tryd.el91, Tryd.fl82, Tryd.st82, Tryd.td1, Tryd.td3, Tryd.td4, Tryd.td82, Tryd.td90, Tryd.td91, Mly.av, List.length_map, aZ, bm, be, bc, List.length_append, bK, bH, List.length_replicate, List.getD_cons_zero, hg0, hr0, List.length_replicate]; (repeat refine And.intro (by first | omega | assumption | exact rfl) ?_); refine aa _ ?_; clear aa K0; simp only [put, app, af, aj, zE, zS, E, List.append_assoc, bg, bb, ba, hst])
   refine aq ?_
   refine ⟨by kernel_rfl, ?_⟩
   refine hK11 _ ?_; clear hK11; refine ai [3, 4, 5, 8, 20, 21, 22] ?_; simp only [ad, lkp, zE, reduceCtorEq, J, ae, E]
   refine ah fun K12 hK12 => ?_
   refine ao hP hN rfl ?_
   iterate 2 (refine ag rfl fun K0 aa => ?_; simp only [zE, op1, ev, lkp, am, ak, aE, Nat.mul_one, aC, aD, acs, Ty.dflt, zG, az, cF, bl, aR, ax, reduceCtorEq, J, E, U, Z, V, Y, Tryd.fl82, Tryd.st82, Tryd.st93, Tryd.td82, Tryd.td93, Mly.av, List.length_map, aZ, bm, be, bc, List.length_append, bK, bH, List.length_replicate, List.getD_cons_zero]; (repeat refine And.intro (by first | omega | assumption | exact rfl) ?_); (first | refine aa _ ?_ | refine Or.inl (aa _ ?_)); clear aa K0; simp only [put, app, af, aj, zE, zS, E, List.append_assoc, bg, bb, ba])
   (refine ag rfl fun K0 aa => ?_; simp only [zE, op1, ev, lkp, am, ak, b0, bl, c8, rep, aM, aR, ax, Ty.size, reduceCtorEq, J, E, U, Z, V, Y, Tryd.el94, Tryd.td1, Tryd.td94, Mly.av, List.length_map, aZ, bm, be, bc, List.length_append, bK, bH, List.length_replicate, List.getD_cons_zero]; (repeat refine And.intro (by first | omega | assumption | exact rfl) ?_); refine Or.inr (Or.inl (aa _ ?_)); clear aa K0; simp only [put, app, af, aj, zE, zS, E, List.append_assoc, bg, bb, ba])
   (refine ag rfl fun K0 aa => ?_; simp only [zE, op1, ev, lkp, am, ak, ev, reduceCtorEq, J, E, U, Z, V, Y, Tryd.el94, Tryd.td94, Mly.av, List.length_map, aZ, bm, be, bc, List.length_append, bK, bH, List.length_replicate, List.getD_cons_zero]; refine aa _ ?_; clear aa K0; simp only [put, app, af, aj, zE, zS, E, List.append_assoc, bg, bb, ba])
   refine aq ?_
   refine hK12 _ ?_; clear hK12; refine ai [3, 4, 5, 8, 10, 20, 21, 22] ?_; simp only [ad, lkp, zE, reduceCtorEq, J, ae, E]
   refine ah fun K13 hK13 => ?_
   refine ah fun K14 hK14 => ?_
   refine ao hP hN rfl ?_
   (refine ag rfl fun K0 aa => ?_; simp only [zE, op1, ev, lkp, am, ak, ev, reduceCtorEq, J, E, U, Z, V, Y, Tryd.td3, Mly.av, List.length_map, aZ, bm, be, bc, List.length_append, bK, bH, List.length_replicate, List.getD_cons_zero]; refine aa _ ?_; clear aa K0; simp only [put, app, af, aj, zE, zS, E, List.append_assoc, bg, bb, ba])
   refine aq ?_
   refine hK14 _ ?_; clear hK14; refine ai [3, 4, 5, 8, 10, 11, 20, 21, 22] ?_; simp only [ad, lkp, zE, reduceCtorEq, J, ae, E]
   refine b8 ?_
   refine cj (fun n15 s15 => ∃ (i : Nat) (l : List S3) (v : Nat), (WFS a b l) ∧ (srS a b (fuS a b - i) i l = seS a b s t) ∧ (i ≤ l.length) ∧ n15 = fuS a b - i ∧ s15 = { env := [(3, .one (.ptr 0 0 0 0)), (4, .one (.ptr 1 0 0 0)), (8, .one (.rwc 3 0)), (10, .one (.row (a.nx.length + 1 + 1 + 1 + 1) v)), (11, .one (.int .i64 (i : Int)))], L := .vars 24 [.int .i64 a.inp, .int .i64 a.st, .list (.list (.int .i64)) a.nx, .list (.list (.int .i64)) a.ot] :: .vars 24 [.int .i64 b.inp, .int .i64 b.st, .list (.list (.int .i64)) b.nx, .list (.list (.int .i64)) b.ot] :: .vars 82 [.int .i64 s, .int .i64 t] :: .rowc 91 1 0 (gcs a.nx.length) :: (cO 4 (snS l b.nx.length) a.nx.length ++ [.row (.pair (.pair (.int .i64) (.pair (.int .i64) (.unit))) (.pair (.list (.int .i64)) (.unit))) 93 v (List.map sW l)]) }) ?_ ?_
   ·refine ⟨_, _, aY [3, 4, 8, 10, 11], 0, [(s, t, [])], 0, jZ hs ht, rfl, Nat.zero_le _, rfl, rfl⟩
   ·rintro n15 s15 ⟨i, l, v, hwf, hsr, hil0, rfl, rfl⟩
    refine ah fun K16 hK16 => ?_
    refine ah fun K17 hK17 => ?_
    refine ao hP hN rfl ?_
    iterate 4 (refine ag rfl fun K0 aa => ?_; simp only [zE, op1, ev, lkp, am, ak, aP, bT, bC, bu, bv, bP, Nat.div_one, aV, bz, Ty.size, aM, dite_true, aJ, aK, aI, ay, aH, aX, reduceCtorEq, J, E, U, Z, V, Y, Tryd.el94, Tryd.td3, Tryd.td4, Tryd.td94, Mly.av, List.length_map, aZ, bm, be, bc, List.length_append, bK, bH, List.length_replicate, List.getD_cons_zero]; (repeat refine And.intro (by first | omega | assumption | exact rfl) ?_); (first | refine aa _ ?_ | refine Or.inl (aa _ ?_)); clear aa K0; simp only [put, app, af, aj, zE, zS, E, List.append_assoc, bg, bb, ba])
    refine aq ?_
    refine hK17 _ ?_; clear hK17; refine ai [3, 4, 8, 10, 11, 46] ?_; simp only [ad, lkp, zE, reduceCtorEq, J, ae, E]
    refine aL (by simp only [ev, ad, lkp, zE, reduceCtorEq, J, ae, E]; exact rfl) (fun hc18 => ?_) (fun hc18 => ?_)
    ·(try simp only [zB, reduceCtorEq] at hc18)
     refine aT ?_
     refine hK16 _ ?_; clear hK16; refine ai [3, 4, 8, 10, 11, 46] ?_; simp only [ad, lkp, zE, reduceCtorEq, J, ae, E]
     refine ah fun K19 hK19 => ?_
     refine b8 ?_
     refine ah fun K20 hK20 => ?_
     have hil : i < l.length := by omega
     have hgi : ∀ d, (List.map sW l).getD i d = (((l.getD i eS0).1, ((l.getD i eS0).2.1, ())), ((l.getD i eS0).2.2, ())) := fun d => by rw [mn eS0 d (by omega)]; rfl
     refine ao hP hN rfl ?_
     iterate 7 (refine ag rfl fun K0 aa => ?_; simp only [zE, op1, ev, lkp, am, ak, aS, zG, Ty.dflt, Ty.size, Nat.mul_one, ne_eq, not_false_eq_true, Int.natCast_one, Int.mul_one, aA, aE, aC, aD, acs, az, cC, bJ, ax, aR, aM, reduceCtorEq, J, E, U, Z, V, Y, Tryd.el94, Tryd.fl82, Tryd.st82, Tryd.st93, Tryd.td3, Tryd.td82, Tryd.td93, Tryd.td94, Mly.av, List.length_map, aZ, bm, be, bc, List.length_append, bK, bH, List.length_replicate, List.getD_cons_zero, hgi]; (repeat refine And.intro (by first | omega | assumption | exact rfl) ?_); (first | refine aa _ ?_ | refine Or.inl (aa _ ?_)); clear aa K0; simp only [put, app, af, aj, zE, zS, E, List.append_assoc, bg, bb, ba])
     refine aq ?_
     refine hK20 _ ?_; clear hK20; refine ai [3, 4, 8, 10, 11, 12, 46] ?_; simp only [ad, lkp, zE, reduceCtorEq, J, ae, E]
     refine ah fun K21 hK21 => ?_
     refine ao hP hN rfl ?_
     iterate 3 (refine ag rfl fun K0 aa => ?_; simp only [zE, op1, ev, lkp, am, ak, aA, aE, Nat.mul_one, aC, aD, acs, Ty.dflt, zG, az, reduceCtorEq, J, E, U, Z, V, Y, Tryd.st24, Tryd.td24, Tryd.td3, Mly.av, List.length_map, aZ, bm, be, bc, List.length_append, bK, bH, List.length_replicate, List.getD_cons_zero]; (repeat refine And.intro (by first | omega | assumption | exact rfl) ?_); refine aa _ ?_; clear aa K0; simp only [put, app, af, aj, zE, zS, E, List.append_assoc, bg, bb, ba])
     refine aq ?_
     refine hK21 _ ?_; clear hK21; refine ai [3, 4, 8, 10, 11, 12, 46, 55, 56] ?_; simp only [ad, lkp, zE, reduceCtorEq, J, ae, E]
     refine b8 ?_
     refine cj (fun n22 s22 => ∃ (x : Nat) (v2 : Nat), ((x : Int) ≤ a.inp) ∧ (∀ y, y < x → fd a b (l.getD i eS0) y = false) ∧ (WFS a b (cT a b (l.getD i eS0) l x)) ∧ n22 = a.inp.toNat - x ∧ s22 = { env := [(3, .one (.ptr 0 0 0 0)), (4, .one (.ptr 1 0 0 0)), (8, .one (.rwc 3 0)), (10, .one (.row (a.nx.length + 1 + 1 + 1 + 1) v2)), (11, .one (.int .i64 (i : Int))), (12, .one (.ptr (a.nx.length + 1 + 1 + 1 + 1 + 1) 0 0 0)), (55, .one (.int .i64 a.inp)), (56, .one (.int .i64 (x : Int)))], L := .vars 24 [.int .i64 a.inp, .int .i64 a.st, .list (.list (.int .i64)) a.nx, .list (.list (.int .i64)) a.ot] :: .vars 24 [.int .i64 b.inp, .int .i64 b.st, .list (.list (.int .i64)) b.nx, .list (.list (.int .i64)) b.ot] :: .vars 82 [.int .i64 s, .int .i64 t] :: .rowc 91 1 0 (gcs a.nx.length) :: (cO 4 (snS (cT a b (l.getD i eS0) l x) b.nx.length) a.nx.length ++ [.row (.pair (.pair (.int .i64) (.pair (.int .i64) (.unit))) (.pair (.list (.int .i64)) (.unit))) 93 v2 (List.map sW (cT a b (l.getD i eS0) l x)), .vars 82 [.int .i64 (l.getD i eS0).1, .int .i64 (l.getD i eS0).2.1]]) }) ?_ ?_
     ·exact ⟨_, _, aY [3, 4, 8, 10, 11, 12, 55, 56], 0, v, by omega, fun y hy => by omega, hwf, rfl, rfl⟩
     ·rintro n22 s22 ⟨x, v2, hx, hdf, hwr, rfl, rfl⟩
      refine ah fun K23 hK23 => ?_
      refine ao hP hN rfl ?_
      (refine ag rfl fun K0 aa => ?_; simp only [zE, op1, ev, lkp, am, ak, aJ, aK, aI, ay, aH, aX, reduceCtorEq, J, E, U, Z, V, Y, Tryd.td3, Tryd.td4, Mly.av, List.length_map, aZ, bm, be, bc, List.length_append, bK, bH, List.length_replicate, List.getD_cons_zero]; (repeat refine And.intro (by first | omega | assumption | exact rfl) ?_); refine aa _ ?_; clear aa K0; simp only [put, app, af, aj, zE, zS, E, List.append_assoc, bg, bb, ba])
      refine aq ?_
      refine hK23 _ ?_; clear hK23; refine ai [3, 4, 8, 10, 11, 12, 55, 56, 57] ?_; simp only [ad, lkp, zE, reduceCtorEq, J, ae, E]
      refine ah fun K24 hK24 => ?_
      refine aL (by simp only [ev, ad, lkp, zE, reduceCtorEq, J, ae, E]; exact rfl) (fun hc25 => ?_) (fun hc25 => ?_)
      ·(try simp only [zB, reduceCtorEq] at hc25)
       refine aT ?_
       refine hK24 _ ?_; clear hK24; refine ai [3, 4, 8, 10, 11, 12, 55, 56, 57] ?_; simp only [ad, lkp, zE, reduceCtorEq, J, ae, E]
       refine ah fun K26 hK26 => ?_
       refine b8 ?_
       refine ah fun K27 hK27 => ?_
       refine ao hP hN rfl ?_
       iterate 2 (refine ag rfl fun K0 aa => ?_; simp only [zE, op1, ev, lkp, am, ak, ev, reduceCtorEq, J, E, U, Z, V, Y, Tryd.td3, Mly.av, List.length_map, aZ, bm, be, bc, List.length_append, bK, bH, List.length_replicate, List.getD_cons_zero]; refine aa _ ?_; clear aa K0; simp only [put, app, af, aj, zE, zS, E, List.append_assoc, bg, bb, ba])
       refine aq ?_
       refine hK27 _ ?_; clear hK27; refine ai [3, 4, 8, 10, 11, 12, 13, 55, 56, 57] ?_; simp only [ad, lkp, zE, reduceCtorEq, J, ae, E]
       refine ah fun K28 hK28 => ?_
       refine ah fun K29 hK29 => ?_
       have hil : i < l.length := by omega
       have hei := hwf.at_ hil; have hwl := hwf.wl hil; have hbl := hwf.le; have hbg := hwf.big ha hb; have hbr := hwr.big ha hb; have hge := lT a b (l.getD i eS0) l x; have hat := mT a b (l.getD i eS0) x hil
       have har := ha.rl (l.getD i eS0).1.toNat (by omega); have haq := ha.ql (l.getD i eS0).1.toNat (by omega); have hbr2 := hb.rl (l.getD i eS0).2.1.toNat (by omega); have hbq := hb.ql (l.getD i eS0).2.1.toNat (by omega)
       have hgi : ∀ d, (List.map sW (cT a b (l.getD i eS0) l x)).getD i d = (((l.getD i eS0).1, ((l.getD i eS0).2.1, ())), ((l.getD i eS0).2.2, ())) := fun d => by rw [mn eS0 d (by omega), hat]; rfl
       refine cB hP hN Tryd.mixed rfl ?_
       iterate 19 (refine ag rfl fun K0 aa => ?_; simp only [zE, op1, ev, lkp, am, ak, aA, aE, Nat.mul_one, aC, aD, acs, Ty.dflt, zG, az, aS, Ty.size, ne_eq, not_false_eq_true, Int.natCast_one, Int.mul_one, aJ, aK, aI, ay, aH, aX, reduceCtorEq, J, E, U, Z, V, Y, Tryd.el22, Tryd.el25, Tryd.fl82, Tryd.st24, Tryd.st82, Tryd.td1, Tryd.td22, Tryd.td24, Tryd.td25, Tryd.td3, Tryd.td4, Tryd.td82, Mly.av, List.length_map, aZ, bm, be, bc, List.length_append, bK, bH, List.length_replicate, List.getD_cons_zero]; (repeat refine And.intro (by first | omega | assumption | exact rfl) ?_); refine aa _ ?_; clear aa K0; simp only [put, app, af, aj, zE, zS, E, List.append_assoc, bg, bb, ba])
       refine aq ?_
       refine ⟨by kernel_rfl, ?_⟩
       refine hK29 _ ?_; clear hK29; refine ai [3, 4, 8, 10, 11, 12, 13, 55, 56, 57, 77] ?_; simp only [ad, lkp, zE, reduceCtorEq, J, ae, E]
       refine aL (by simp only [ev, ad, lkp, zE, reduceCtorEq, J, ae, E]; exact rfl) (fun hc30 => ?_) (fun hc30 => ?_)
       ·(try simp only [zB, reduceCtorEq] at hc30)
        refine ah fun K31 hK31 => ?_
        have hdx : fd a b (l.getD i eS0) x = true := by simp only [fd, Mly.out, Int.toNat_natCast]; simp_all
        refine ao hP hN rfl ?_
        iterate 8 (refine ag rfl fun K0 aa => ?_; simp only [zE, op1, ev, lkp, am, ak, aS, zG, Ty.dflt, Ty.size, Nat.mul_one, ne_eq, not_false_eq_true, Int.natCast_one, Int.mul_one, aA, aE, aC, aD, acs, az, b0, bl, c8, rep, aM, aR, ax, reduceCtorEq, J, E, U, Z, V, Y, Tryd.el22, Tryd.el25, Tryd.el94, Tryd.st93, Tryd.td1, Tryd.td2, Tryd.td22, Tryd.td25, Tryd.td3, Tryd.td93, Tryd.td94, Mly.av, List.length_map, aZ, bm, be, bc, List.length_append, bK, bH, List.length_replicate, List.getD_cons_zero, hgi]; (repeat refine And.intro (by first | omega | assumption | exact rfl) ?_); (first | refine aa _ ?_ | refine Or.inl (aa _ ?_)); clear aa K0; simp only [put, app, af, aj, zE, zS, E, List.append_assoc, bg, bb, ba])
        refine ag rfl fun K0 aa => ?_
        refine aW (h := aF (fk [(l.getD i eS0).2.2, [(x : Int)]] (by rw [eW]; omega))) rfl rfl (by first | exact rfl | (simp only [ev, ad, lkp, zE, reduceCtorEq, J, ae, E]; exact rfl)) (by simp only [zE, zG, op1, ev, lkp, am, ak, ax, acs, bf, mv1, mvC, Ty.dflt, reduceCtorEq, J, E, U, Z, V, Y, Mly.av, List.length_map, aZ, bm, be, bc, List.length_append, bK, bH, List.length_replicate, List.getD_cons_zero, hgi]) ?_
        refine aa _ ?_; clear aa K0; simp only [put, app, af, aj, zE, zS, E, List.append_assoc, bg, bb, ba]
        iterate 2 (refine ag rfl fun K0 aa => ?_; simp only [zE, op1, ev, lkp, am, ak, ev, reduceCtorEq, J, E, U, Z, V, Y, Tryd.el25, Tryd.td25, Tryd.td4, Mly.av, List.length_map, aZ, bm, be, bc, List.length_append, bK, bH, List.length_replicate, List.getD_cons_zero, hgi]; refine aa _ ?_; clear aa K0; simp only [put, app, af, aj, zE, zS, E, List.append_assoc, bg, bb, ba])
        refine aq ?_
        refine hK31 _ ?_; clear hK31; refine ai [3, 4, 6, 7, 8, 10, 11, 12, 13, 55, 56, 57, 77] ?_; simp only [ad, lkp, zE, reduceCtorEq, J, ae, E]
        refine aU ?_
        refine ⟨by first | exact .inl rfl | exact .inr rfl, _, rfl, ?_⟩; simp only [fzV, fz1, fzC, List.map_cons, List.map_nil, ad, lkp, zE, reduceCtorEq, J, ae, E, Mly.av, List.length_map, aZ, bm, be, bc, List.length_append, bK, bH, List.length_replicate, List.getD_cons_zero]
        first
        | (have hx2 : x < a.inp.toNat := by omega
           rw [← hsr, show fuS a b - i = (fuS a b - (i + 1)) + 1 by omega, np hil hx2 hdx hdf]
           exact VLE.of_eq (by simp))
        | (rw [← hsr, qF _ _ _ _ _ (by omega)]; exact br ⟨aB (aQ rfl), aB (.refl _), trivial⟩)
       ·(try simp only [zB, reduceCtorEq] at hc30)
        refine aT ?_
        refine hK28 _ ?_; clear hK28; refine ai [3, 4, 8, 10, 11, 12, 13, 55, 56, 57, 77] ?_; simp only [ad, lkp, zE, reduceCtorEq, J, ae, E]
        refine ah fun K32 hK32 => ?_
        have hdn : fd a b (l.getD i eS0) x = false := by simp only [fd, Mly.out, Int.toNat_natCast]; simp_all
        refine tV ?_; simp only [List.cons_append, List.append_assoc, List.nil_append]
        refine cB hP hN Tryd.mixed rfl ?_
        iterate 19 (refine ag rfl fun K0 aa => ?_; simp only [zE, op1, ev, lkp, am, ak, aA, aE, Nat.mul_one, aC, aD, acs, Ty.dflt, zG, az, aS, Ty.size, ne_eq, not_false_eq_true, Int.natCast_one, Int.mul_one, cF, bl, aR, ax, reduceCtorEq, J, E, U, Z, V, Y, Tryd.el22, Tryd.el25, Tryd.fl82, Tryd.st24, Tryd.st82, Tryd.td1, Tryd.td2, Tryd.td22, Tryd.td24, Tryd.td25, Tryd.td3, Tryd.td82, Mly.av, List.length_map, aZ, bm, be, bc, List.length_append, bK, bH, List.length_replicate, List.getD_cons_zero]; (repeat refine And.intro (by first | omega | assumption | exact rfl) ?_); (first | refine aa _ ?_ | refine Or.inl (aa _ ?_)); clear aa K0; simp only [put, app, af, aj, zE, zS, E, List.append_assoc, bg, bb, ba])
        (refine ag rfl fun K0 aa => ?_; simp only [zE, op1, ev, lkp, am, ak, cC, reduceCtorEq, J, E, U, Z, V, Y, Tryd.fl82, Tryd.st82, Tryd.td82, Mly.av, List.length_map, aZ, bm, be, bc, List.length_append, bK, bH, List.length_replicate, List.getD_cons_zero]; refine Or.inr (Or.inl ⟨(a.nx.length + 1 + 1 + 1 + 1 + 1 + 1), ?_, (.pair (.int .i64) (.pair (.int .i64) .unit)), (0, (0, ())), ?_⟩); (simp only [zE, bc]); (repeat refine And.intro (by first | rfl | decide) ?_); refine aa _ ?_; clear aa K0; simp only [put, app, af, aj, zE, zS, E, List.append_assoc, bg, bb, ba])
        (refine ag rfl fun K0 aa => ?_; simp only [zE, op1, ev, lkp, am, ak, bJ, Nat.mul_one, ax, aR, aM, acs, Ty.size, Ty.dflt, zG, reduceCtorEq, J, E, U, Z, V, Y, Tryd.fl82, Tryd.st82, Tryd.td82, Mly.av, List.length_map, aZ, bm, be, bc, List.length_append, bK, bH, List.length_replicate, List.getD_cons_zero]; (repeat refine And.intro (by first | omega | assumption | exact rfl) ?_); refine aa _ ?_; clear aa K0; simp only [put, app, af, aj, zE, zS, E, List.append_assoc, bg, bb, ba])
        refine aq ?_
        refine ⟨by exact sc (uR a.nx.length) [([], [0], 0), ([], [0], 0), ([], [5], 0), ([], [5], 0), ([], [], 0), ([], [], 0), ([], [], 0), ([], [], 0), ([], [], 0), ([], [1], 0), ([], [1], 0), ([], [5], 0), ([], [5], 0), ([], [], 0), ([], [], 0), ([], [], 0), ([], [], 0), ([], [], 0), ([], [], 0), ([6], [6], 0), ([6], [6], 0)] (by kernel_rfl), ?_⟩
        refine hK32 _ ?_; clear hK32; refine ai [3, 4, 8, 10, 11, 12, 13, 14, 55, 56, 57, 77] ?_; simp only [ad, lkp, zE, reduceCtorEq, J, ae, E]
        refine ah fun K33 hK33 => ?_
        have hpn := ha.nr (l.getD i eS0).1.toNat x (by omega) (by omega); have hqn := hb.nr (l.getD i eS0).2.1.toNat x (by omega) (by omega)
        have hgP := qP (n := a.nx.length) (i := ((a.nx.getD (l.getD i eS0).1.toNat []).getD x 0).toNat) (by omega); have hrP : ∀ X : List AO, (cO 4 (snS (cT a b (l.getD i eS0) l x) b.nx.length) a.nx.length ++ X)[((a.nx.getD (l.getD i eS0).1.toNat []).getD x 0).toNat]? = some (.row .bool 4 0 (snS (cT a b (l.getD i eS0) l x) b.nx.length ((a.nx.getD (l.getD i eS0).1.toNat []).getD x 0).toNat)) := fun X => s9 (by omega)
        have hsL := vt (cT a b (l.getD i eS0) l x) b.nx.length ((a.nx.getD (l.getD i eS0).1.toNat []).getD x 0).toNat; have hsA := wE (l := (cT a b (l.getD i eS0) l x)) (m := b.nx.length) (p := ((a.nx.getD (l.getD i eS0).1.toNat []).getD x 0)) (q := ((b.nx.getD (l.getD i eS0).2.1.toNat []).getD x 0)) (by omega) (by omega)
        have hEin : (l.getD i eS0) ∈ (cT a b (l.getD i eS0) l x) := by
          have h9 := sH (l := (cT a b (l.getD i eS0) l x)) (i := i) (by omega)
          rw [hat] at h9; exact h9
        refine cB hP hN Tryd.mixed rfl ?_
        iterate 3 (refine ag rfl fun K0 aa => ?_; simp only [zE, op1, ev, lkp, am, ak, aE, Nat.mul_one, aC, aD, acs, Ty.dflt, zG, az, aJ, aK, aI, ay, aH, aX, reduceCtorEq, J, E, U, Z, V, Y, Tryd.fl82, Tryd.st82, Tryd.td4, Tryd.td82, Mly.av, List.length_map, aZ, bm, be, bc, List.length_append, bK, bH, List.length_replicate, List.getD_cons_zero, hgP, hrP, hsL, hsA]; (repeat refine And.intro (by first | omega | assumption | exact rfl) ?_); refine aa _ ?_; clear aa K0; simp only [put, app, af, aj, zE, zS, E, List.append_assoc, bg, bb, ba])
        (refine ag rfl fun K0 aa => ?_; simp only [zE, op1, ev, lkp, am, ak, ev, reduceCtorEq, J, E, U, Z, V, Y, Tryd.td4, Mly.av, List.length_map, aZ, bm, be, bc, List.length_append, bK, bH, List.length_replicate, List.getD_cons_zero, hgP, hrP, hsL, hsA]; refine aa _ ?_; clear aa K0; simp only [put, app, af, aj, zE, zS, E, List.append_assoc, bg, bb, ba])
        refine' bn (want := true) 10 rfl (m := 109) (by simp only [ad, lkp, zE, reduceCtorEq, J, ae, E]; exact rfl) (by kernel_rfl) rfl rfl rfl rfl rfl (fun hg34 => ?a34) ?b34 ?c34
        case a34 =>
         have hq34 := hg34; (try simp only [zB, reduceCtorEq] at hg34); simp only [List.take_succ_cons, List.take_zero, List.cons_append, List.nil_append]
         (refine aG rfl fun K0 aa => ?_; simp only [zE, op1, ev, lkp, am, ak, ev, reduceCtorEq, J, E, U, Z, V, Y, Tryd.el90, Tryd.td90, Mly.av, List.length_map, aZ, bm, be, bc, List.length_append, bK, bH, List.length_replicate, List.getD_cons_zero, hgP, hrP, hsL, hsA]; refine aa _ ?_; clear aa K0; simp only [put, app, af, aj, zE, zS, E, List.append_assoc, bg, bb, ba])
         (refine aG rfl fun K0 aa => ?_; simp only [zE, op1, ev, lkp, am, ak, aA, reduceCtorEq, J, E, U, Z, V, Y, Tryd.fl82, Tryd.st82, Tryd.td82, Mly.av, List.length_map, aZ, bm, be, bc, List.length_append, bK, bH, List.length_replicate, List.getD_cons_zero, hgP, hrP, hsL, hsA]; (repeat refine And.intro (by first | omega | assumption | exact rfl) ?_); refine aa _ ?_; clear aa K0; simp only [put, app, af, aj, zE, zS, E, List.append_assoc, bg, bb, ba])
         (refine aG rfl fun K0 aa => ?_; simp only [zE, op1, ev, lkp, am, ak, aE, Nat.mul_one, aC, aD, acs, Ty.dflt, zG, az, reduceCtorEq, J, E, U, Z, V, Y, Tryd.td3, Mly.av, List.length_map, aZ, bm, be, bc, List.length_append, bK, bH, List.length_replicate, List.getD_cons_zero, hgP, hrP, hsL, hsA]; (repeat refine And.intro (by first | omega | assumption | exact rfl) ?_); refine aa _ ?_; clear aa K0; simp only [put, app, af, aj, zE, zS, E, List.append_assoc, bg, bb, ba])
         (refine aG rfl fun K0 aa => ?_; simp only [zE, op1, ev, lkp, am, ak, aS, zG, Ty.dflt, Ty.size, Nat.mul_one, ne_eq, not_false_eq_true, Int.natCast_one, Int.mul_one, reduceCtorEq, J, E, U, Z, V, Y, Tryd.el90, Tryd.td90, Mly.av, List.length_map, aZ, bm, be, bc, List.length_append, bK, bH, List.length_replicate, List.getD_cons_zero, hgP, hrP, hsL, hsA]; (repeat refine And.intro (by first | omega | assumption | exact rfl) ?_); refine aa _ ?_; clear aa K0; simp only [put, app, af, aj, zE, zS, E, List.append_assoc, bg, bb, ba])
         (refine aG rfl fun K0 aa => ?_; simp only [zE, op1, ev, lkp, am, ak, aE, Nat.mul_one, aC, aD, acs, Ty.dflt, zG, az, reduceCtorEq, J, E, U, Z, V, Y, Tryd.el91, Tryd.td91, Mly.av, List.length_map, aZ, bm, be, bc, List.length_append, bK, bH, List.length_replicate, List.getD_cons_zero, hgP, hrP, hsL, hsA]; (repeat refine And.intro (by first | omega | assumption | exact rfl) ?_); refine aa _ ?_; clear aa K0; simp only [put, app, af, aj, zE, zS, E, List.append_assoc, bg, bb, ba])
         (refine aG rfl fun K0 aa => ?_; simp only [zE, op1, ev, lkp, am, ak, aA, reduceCtorEq, J, E, U, Z, V, Y, Tryd.fl82, Tryd.st82, Tryd.td1, Tryd.td82, Mly.av, List.length_map, aZ, bm, be, bc, List.length_append, bK, bH, List.length_replicate, List.getD_cons_zero, hgP, hrP, hsL, hsA]; (repeat refine And.intro (by first | omega | assumption | exact rfl) ?_); refine aa _ ?_; clear aa K0; simp only [put, app, af, aj, zE, zS, E, List.append_assoc, bg, bb, ba])
         (refine aG rfl fun K0 aa => ?_; simp only [zE, op1, ev, lkp, am, ak, aE, Nat.mul_one, aC, aD, acs, Ty.dflt, zG, az, reduceCtorEq, J, E, U, Z, V, Y, Tryd.td3, Mly.av, List.length_map, aZ, bm, be, bc, List.length_append, bK, bH, List.length_replicate, List.getD_cons_zero, hgP, hrP, hsL, hsA]; (repeat refine And.intro (by first | omega | assumption | exact rfl) ?_); refine aa _ ?_; clear aa K0; simp only [put, app, af, aj, zE, zS, E, List.append_assoc, bg, bb, ba])
         (refine aG rfl fun K0 aa => ?_; simp only [zE, op1, ev, lkp, am, ak, aS, zG, Ty.dflt, Ty.size, Nat.mul_one, ne_eq, not_false_eq_true, Int.natCast_one, Int.mul_one, reduceCtorEq, J, E, U, Z, V, Y, Tryd.el91, Tryd.td91, Mly.av, List.length_map, aZ, bm, be, bc, List.length_append, bK, bH, List.length_replicate, List.getD_cons_zero, hgP, hrP, hsL, hsA]; (repeat refine And.intro (by first | omega | assumption | exact rfl) ?_); refine aa _ ?_; clear aa K0; simp only [put, app, af, aj, zE, zS, E, List.append_assoc, bg, bb, ba])
         (refine aG rfl fun K0 aa => ?_; simp only [zE, op1, ev, lkp, am, ak, aE, Nat.mul_one, aC, aD, acs, Ty.dflt, zG, az, reduceCtorEq, J, E, U, Z, V, Y, Tryd.td4, Mly.av, List.length_map, aZ, bm, be, bc, List.length_append, bK, bH, List.length_replicate, List.getD_cons_zero, hgP, hrP, hsL, hsA]; (repeat refine And.intro (by first | omega | assumption | exact rfl) ?_); refine aa _ ?_; clear aa K0; simp only [put, app, af, aj, zE, zS, E, List.append_assoc, bg, bb, ba])
         (refine aG rfl fun K0 aa => ?_; simp only [zE, op1, ev, lkp, am, ak, fw, reduceCtorEq, J, E, U, Z, V, Y, Tryd.td4, Mly.av, List.length_map, aZ, bm, be, bc, List.length_append, bK, bH, List.length_replicate, List.getD_cons_zero, hgP, hrP, hsL, hsA]; (repeat refine And.intro (by first | omega | assumption | exact rfl) ?_); refine aa _ ?_; clear aa K0; simp only [put, app, af, aj, zE, zS, E, List.append_assoc, bg, bb, ba])
         (refine ag rfl fun K0 aa => ?_; simp only [zE, op1, ev, lkp, am, ak, bU, reduceCtorEq, J, E, U, Z, V, Y, Tryd.td4, Mly.av, List.length_map, aZ, bm, be, bc, List.length_append, bK, bH, List.length_replicate, List.getD_cons_zero, hgP, hrP, hsL, hsA]; refine aa _ ?_; clear aa K0; simp only [put, app, af, aj, zE, zS, E, List.append_assoc, bg, bb, ba])
         refine aq ?_
         refine ⟨by simp only [ad, lkp, zE, reduceCtorEq, J, ae, E]; exact rfl, rfl, ?_, rfl⟩; (repeat refine bo rfl ?_); exact bY (by exact rfl) hq34
        case b34 => exact bV (by first | rfl | (simp [cD]; done) | decide)
        simp only [bM, bB]
        refine aq ?_
        refine ⟨by kernel_rfl, ?_⟩
        refine hK33 _ ?_; clear hK33; refine ai [3, 4, 8, 10, 11, 12, 13, 14, 55, 56, 57, 77, 120] ?_; simp only [ad, lkp, zE, reduceCtorEq, J, ae, E]
        refine aL (by simp only [ev, ad, lkp, zE, reduceCtorEq, J, ae, E]; exact rfl) (fun hc35 => ?_) (fun hc35 => ?_)
        ·(try simp only [zB, reduceCtorEq] at hc35)
         have hkn : inS (cT a b (l.getD i eS0) l x) ((a.nx.getD (l.getD i eS0).1.toNat []).getD x 0) ((b.nx.getD (l.getD i eS0).2.1.toNat []).getD x 0) = false := by simp_all
         refine ah fun K36 hK36 => ?_
         have hset : ∀ X : List AO, (cO 4 (snS (cT a b (l.getD i eS0) l x) b.nx.length) a.nx.length ++ X).set ((a.nx.getD (l.getD i eS0).1.toNat []).getD x 0).toNat (.row .bool 4 0 ((snS (cT a b (l.getD i eS0) l x) b.nx.length ((a.nx.getD (l.getD i eS0).1.toNat []).getD x 0).toNat).set ((b.nx.getD (l.getD i eS0).2.1.toNat []).getD x 0).toNat true)) = cO 4 (snS ((cT a b (l.getD i eS0) l x) ++ [(((a.nx.getD (l.getD i eS0).1.toNat []).getD x 0), ((b.nx.getD (l.getD i eS0).2.1.toNat []).getD x 0), (l.getD i eS0).2.2 ++ [(x : Int)])]) b.nx.length) a.nx.length ++ X := fun X => qd (by omega) (qw (by omega) (by omega)) (fun j hj hne => mZ (by omega) hne)
         refine cB hP hN Tryd.mixed rfl ?_
         iterate 9 (refine ag rfl fun K0 aa => ?_; simp only [zE, op1, ev, lkp, am, ak, aA, aE, Nat.mul_one, aC, aD, acs, Ty.dflt, zG, az, aS, Ty.size, ne_eq, not_false_eq_true, Int.natCast_one, Int.mul_one, bJ, ax, aR, aM, reduceCtorEq, J, E, U, Z, V, Y, Tryd.el90, Tryd.el91, Tryd.fl82, Tryd.st82, Tryd.td1, Tryd.td3, Tryd.td4, Tryd.td82, Tryd.td90, Tryd.td91, Mly.av, List.length_map, aZ, bm, be, bc, List.length_append, bK, bH, List.length_replicate, List.getD_cons_zero, hgP, hrP, hsL]; (repeat refine And.intro (by first | omega | assumption | exact rfl) ?_); refine aa _ ?_; clear aa K0; simp only [put, app, af, aj, zE, zS, E, List.append_assoc, bg, bb, ba, hset])
         refine aq ?_
         refine ⟨by kernel_rfl, ?_⟩
         refine hK36 _ ?_; clear hK36; refine ai [3, 4, 8, 10, 11, 12, 13, 14, 55, 56, 57, 77, 120] ?_; simp only [ad, lkp, zE, reduceCtorEq, J, ae, E]
         refine cB hP hN Tryd.mixed rfl ?_
         iterate 10 (refine ag rfl fun K0 aa => ?_; simp only [zE, op1, ev, lkp, am, ak, aE, Nat.mul_one, aC, aD, acs, Ty.dflt, zG, az, aS, Ty.size, ne_eq, not_false_eq_true, Int.natCast_one, Int.mul_one, aA, b0, bl, c8, rep, aM, aR, ax, reduceCtorEq, J, E, U, Z, V, Y, Tryd.el22, Tryd.el25, Tryd.el94, Tryd.fl82, Tryd.st82, Tryd.st93, Tryd.td1, Tryd.td2, Tryd.td22, Tryd.td25, Tryd.td3, Tryd.td82, Tryd.td93, Tryd.td94, Mly.av, List.length_map, aZ, bm, be, bc, List.length_append, bK, bH, List.length_replicate, List.getD_cons_zero, hgi]; (repeat refine And.intro (by first | omega | assumption | exact rfl) ?_); (first | refine aa _ ?_ | refine Or.inl (aa _ ?_)); clear aa K0; simp only [put, app, af, aj, zE, zS, E, List.append_assoc, bg, bb, ba])
         refine ag rfl fun K0 aa => ?_
         refine aW (h := aF (fk [(l.getD i eS0).2.2, [(x : Int)]] (by rw [eW]; omega))) rfl rfl (by first | exact rfl | (simp only [ev, ad, lkp, zE, reduceCtorEq, J, ae, E]; exact rfl)) (by simp only [zE, zG, op1, ev, lkp, am, ak, ax, acs, bf, mv1, mvC, Ty.dflt, reduceCtorEq, J, E, U, Z, V, Y, Mly.av, List.length_map, aZ, bm, be, bc, List.length_append, bK, bH, List.length_replicate, List.getD_cons_zero, hgi]) ?_
         refine aa _ ?_; clear aa K0; simp only [put, app, af, aj, zE, zS, E, List.append_assoc, bg, bb, ba]
         iterate 4 (refine ag rfl fun K0 aa => ?_; simp only [zE, op1, ev, lkp, am, ak, cF, bl, aR, ax, b0, c8, rep, aM, Ty.size, aP, bT, bC, bu, bv, bP, Nat.div_one, aV, bz, dite_true, reduceCtorEq, J, E, U, Z, V, Y, Tryd.el94, Tryd.st93, Tryd.td1, Tryd.td93, Tryd.td94, Mly.av, List.length_map, aZ, bm, be, bc, List.length_append, bK, bH, List.length_replicate, List.getD_cons_zero, hgi]; (repeat refine And.intro (by first | omega | assumption | exact rfl) ?_); (first | refine aa _ ?_ | refine Or.inl (aa _ ?_)); clear aa K0; simp only [put, app, af, aj, zE, zS, E, List.append_assoc, bg, bb, ba])
         refine aq ?_
         refine ⟨by kernel_rfl, ?_⟩
         refine hK26 _ ?_; clear hK26; refine ai [3, 4, 8, 10, 11, 12, 13, 14, 55, 56, 57, 77, 120] ?_; simp only [ad, lkp, zE, reduceCtorEq, J, ae, E]
         refine ai [3, 4, 8, 10, 11, 12, 55, 56] ?_; simp only [ad, lkp, zE, reduceCtorEq, J]
         refine md (L1 := _ :: _ :: _ :: _ :: (_ ++ [_, _])) (by simp only [List.cons_append, List.append_assoc, List.nil_append]; rfl) hB (by simp [iu, kC, cR, aZ]) (by simp [jf, cR, i9, kQ, aZ]) ?_
         refine ao hP hN rfl ?_
         iterate 2 (refine ag rfl fun K0 aa => ?_; simp only [zE, op1, ev, lkp, am, ak, aJ, aK, aI, ay, aH, aX, reduceCtorEq, J, E, U, Z, V, Y, Tryd.td3, Mly.av, List.length_map, aZ, bm, be, bc, List.length_append, bK, bH, List.length_replicate, List.getD_cons_zero]; (repeat refine And.intro (by first | omega | assumption | exact rfl) ?_); refine aa _ ?_; clear aa K0; simp only [put, app, af, aj, zE, zS, E, List.append_assoc, bg, bb, ba])
         refine aq ?_
         first
         | (have hk : inS (cT a b (l.getD i eS0) l x) (a.nxt (l.getD i eS0).1 x) (b.nxt (l.getD i eS0).2.1 x) = true := hkk
            refine ⟨_, _, ?_, aY [3, 4, 8, 10, 11, 12, 55, 56], x + 1, v2, by omega, fun y hy => ?_, hwf.row ha hb hi hil (x + 1) (by omega), rfl, ?_⟩
            · omega
            · by_cases e : y = x
              · rw [e]; exact hdn
              · exact hdf y (by omega)
            · rw [dR, stS, if_pos hk]; first | done | rfl)
         | (have hk : ¬ inS (cT a b (l.getD i eS0) l x) (a.nxt (l.getD i eS0).1 x) (b.nxt (l.getD i eS0).2.1 x) = true := fun hh => Bool.noConfusion (hkn.symm.trans hh)
            refine ⟨_, _, ?_, aY [3, 4, 8, 10, 11, 12, 55, 56], x + 1, v2 + 1, by omega, fun y hy => ?_, hwf.row ha hb hi hil (x + 1) (by omega), rfl, ?_⟩
            · omega
            · by_cases e : y = x
              · rw [e]; exact hdn
              · exact hdf y (by omega)
            · rw [dR, stS, if_neg hk, List.map_append]; simp only [List.flatten_cons, List.flatten_nil, List.append_nil]; rfl)
        ·(try simp only [zB, reduceCtorEq] at hc35)
         have hkk : inS (cT a b (l.getD i eS0) l x) ((a.nx.getD (l.getD i eS0).1.toNat []).getD x 0) ((b.nx.getD (l.getD i eS0).2.1.toNat []).getD x 0) = true := by
           by_cases e1 : ((a.nx.getD (l.getD i eS0).1.toNat []).getD x 0) = (l.getD i eS0).1 ∧ ((b.nx.getD (l.getD i eS0).2.1.toNat []).getD x 0) = (l.getD i eS0).2.1
           · exact gy.2 ⟨(l.getD i eS0), hEin, e1.1.symm, e1.2.symm⟩
           · cases hX : inS (cT a b (l.getD i eS0) l x) ((a.nx.getD (l.getD i eS0).1.toNat []).getD x 0) ((b.nx.getD (l.getD i eS0).2.1.toNat []).getD x 0) with
             | true => rfl
             | false => exfalso; simp_all
         refine aT ?_
         refine hK26 _ ?_; clear hK26; refine ai [3, 4, 8, 10, 11, 12, 13, 14, 55, 56, 57, 77, 120] ?_; simp only [ad, lkp, zE, reduceCtorEq, J, ae, E]
         refine ai [3, 4, 8, 10, 11, 12, 55, 56] ?_; simp only [ad, lkp, zE, reduceCtorEq, J]
         refine md (L1 := _ :: _ :: _ :: _ :: (_ ++ [_, _])) (by simp only [List.cons_append, List.append_assoc, List.nil_append]; rfl) hB (by simp [iu, kC, cR, aZ]) (by simp [jf, cR, i9, kQ, aZ]) ?_
         refine ao hP hN rfl ?_
         iterate 2 (refine ag rfl fun K0 aa => ?_; simp only [zE, op1, ev, lkp, am, ak, aJ, aK, aI, ay, aH, aX, reduceCtorEq, J, E, U, Z, V, Y, Tryd.td3, Mly.av, List.length_map, aZ, bm, be, bc, List.length_append, bK, bH, List.length_replicate, List.getD_cons_zero]; (repeat refine And.intro (by first | omega | assumption | exact rfl) ?_); refine aa _ ?_; clear aa K0; simp only [put, app, af, aj, zE, zS, E, List.append_assoc, bg, bb, ba])
         refine aq ?_
         first
         | (have hk : inS (cT a b (l.getD i eS0) l x) (a.nxt (l.getD i eS0).1 x) (b.nxt (l.getD i eS0).2.1 x) = true := hkk
            refine ⟨_, _, ?_, aY [3, 4, 8, 10, 11, 12, 55, 56], x + 1, v2, by omega, fun y hy => ?_, hwf.row ha hb hi hil (x + 1) (by omega), rfl, ?_⟩
            · omega
            · by_cases e : y = x
              · rw [e]; exact hdn
              · exact hdf y (by omega)
            · rw [dR, stS, if_pos hk]; first | done | rfl)
         | (have hk : ¬ inS (cT a b (l.getD i eS0) l x) (a.nxt (l.getD i eS0).1 x) (b.nxt (l.getD i eS0).2.1 x) = true := fun hh => Bool.noConfusion (hkn.symm.trans hh)
            refine ⟨_, _, ?_, aY [3, 4, 8, 10, 11, 12, 55, 56], x + 1, v2 + 1, by omega, fun y hy => ?_, hwf.row ha hb hi hil (x + 1) (by omega), rfl, ?_⟩
            · omega
            · by_cases e : y = x
              · rw [e]; exact hdn
              · exact hdf y (by omega)
            · rw [dR, stS, if_neg hk, List.map_append]; simp only [List.flatten_cons, List.flatten_nil, List.append_nil]; rfl)
      ·(try simp only [zB, reduceCtorEq] at hc25)
       refine cm ?_
       refine hK19 _ ?_; clear hK19; refine ai [3, 4, 8, 10, 11, 12, 55, 56, 57] ?_; simp only [ad, lkp, zE, reduceCtorEq, J, ae, E]
       have hbg := hwf.big ha hb
       refine ai [3, 4, 8, 10, 11] ?_; simp only [ad, lkp, zE, reduceCtorEq, J]
       refine md (L1 := _ :: _ :: _ :: _ :: (_ ++ [_])) (by simp only [List.cons_append, List.append_assoc, List.nil_append]; rfl) hB (by simp [iu, kC, cR, aZ]) (by simp [jf, cR, i9, kQ, aZ]) ?_
       refine ao hP hN rfl ?_
       iterate 3 (refine ag rfl fun K0 aa => ?_; simp only [zE, op1, ev, lkp, am, ak, aJ, aK, aI, ay, aH, aX, reduceCtorEq, J, E, U, Z, V, Y, Tryd.td3, Mly.av, List.length_map, aZ, bm, be, bc, List.length_append, bK, bH, List.length_replicate, List.getD_cons_zero]; (repeat refine And.intro (by first | omega | assumption | exact rfl) ?_); refine aa _ ?_; clear aa K0; simp only [put, app, af, aj, zE, zS, E, List.append_assoc, bg, bb, ba])
       refine aq ?_
       have hil : i < l.length := by omega
       have hbl := hwf.le
       have hge := lT a b (l.getD i eS0) l x
       have hxe : x = a.inp.toNat := by omega
       subst hxe
       refine ⟨_, _, ?_, aY [3, 4, 8, 10, 11], i + 1, cT a b (l.getD i eS0) l a.inp.toNat, v2, hwr, ?_, by omega, rfl, rfl⟩
       · omega
       · rw [← hsr, show fuS a b - i = (fuS a b - (i + 1)) + 1 by omega, u0 hil (fun y hy => hdf y (by omega))]
    ·(try simp only [zB, reduceCtorEq] at hc18)
     refine cm ?_
     refine hK13 _ ?_; clear hK13; refine ai [3, 4, 8, 10, 11, 46] ?_; simp only [ad, lkp, zE, reduceCtorEq, J, ae, E]
     refine ah fun K37 hK37 => ?_
     refine ao hP hN rfl ?_
     iterate 2 (refine ag rfl fun K0 aa => ?_; simp only [zE, op1, ev, lkp, am, ak, ev, reduceCtorEq, J, E, U, Z, V, Y, Tryd.el25, Tryd.td25, Tryd.td4, Mly.av, List.length_map, aZ, bm, be, bc, List.length_append, bK, bH, List.length_replicate, List.getD_cons_zero]; refine aa _ ?_; clear aa K0; simp only [put, app, af, aj, zE, zS, E, List.append_assoc, bg, bb, ba])
     refine aq ?_
     refine hK37 _ ?_; clear hK37; refine ai [3, 4, 6, 7, 8, 10, 11, 46] ?_; simp only [ad, lkp, zE, reduceCtorEq, J, ae, E]
     refine aU ?_
     refine ⟨by first | exact .inl rfl | exact .inr rfl, _, rfl, ?_⟩; simp only [fzV, fz1, fzC, List.map_cons, List.map_nil, ad, lkp, zE, reduceCtorEq, J, ae, E, Mly.av, List.length_map, aZ, bm, be, bc, List.length_append, bK, bH, List.length_replicate, List.getD_cons_zero]
     first
     | (have hx2 : x < a.inp.toNat := by omega
        rw [← hsr, show fuS a b - i = (fuS a b - (i + 1)) + 1 by omega, np hil hx2 hdx hdf]
        exact VLE.of_eq (by simp))
     | (rw [← hsr, qF _ _ _ _ _ (by omega)]; exact br ⟨aB (aQ rfl), aB (.refl _), trivial⟩)
end Go.Proofs.YtceafldjjedhcaaDoor
namespace Go.Proofs.YtceafldjjedhcaaDoor
open Go Go.AV
open Nat renaming reduceEqDiff → J, reduceAdd → E, reduceLeDiff → U, reduceLT → Z, reduceMul → V, reduceSub → Y
open List renaming set_cons_zero → aw, set_cons_succ → au
set_option maxRecDepth 100000 in
theorem wW (m : Mly) (s t : Int) : cq Tryd.prog 17 [m.av, .one (.int .i64 s), .one (.int .i64 t)] (.tup [.one (.list (.int .i64) ((stW m s t).getD [])), .one (.bool (stW m s t).isSome), .one (.int .i64 (stE m s t))]) := by
 refine bt Tryd.func17 rfl (by kernel_rfl) (Nat.le_of_ble_eq_true rfl) rfl fun C hP hN hB => ?_
 replace hN : C.N = 48 := hN
 simp only [ae, E]
 refine ah fun K1 hK1 => ?_
 refine ao hP hN rfl ?_
 iterate 4 (refine ag rfl fun K0 aa => ?_; simp only [zE, op1, ev, lkp, am, ak, dn, ax, reduceCtorEq, J, E, U, Z, V, Y, Tryd.el25, Tryd.st24, Tryd.td24, Tryd.td25, Tryd.td28, Tryd.td4, Mly.av]; (repeat refine And.intro (by first | omega | assumption | exact rfl) ?_); refine aa _ ?_; clear aa K0; simp only [put, app, af, aj, zE, zS, E])
 refine aq ?_
 refine hK1 _ ?_; clear hK1; refine ai [0, 1, 2, 3, 6, 7, 8] ?_; simp only [ad, lkp, zE, reduceCtorEq, J, ae, E]
 refine ah fun K2 hK2 => ?_
 refine ah fun K3 hK3 => ?_
 refine ao hP hN rfl ?_
 (refine ag rfl fun K0 aa => ?_; simp only [zE, op1, ev, lkp, am, ak, aE, Nat.mul_one, aC, aD, acs, Ty.dflt, zG, az, reduceCtorEq, J, E, U, Z, V, Y, Tryd.st24, Tryd.td24, Mly.av]; (repeat refine And.intro (by first | omega | assumption | exact rfl) ?_); refine aa _ ?_; clear aa K0; simp only [put, app, af, aj, zE, zS, E])
 refine ag rfl fun K0 aa => ?_
 refine aW (h := aF (iF m)) rfl rfl (by first | exact rfl | (simp only [ev, ad, lkp, zE, reduceCtorEq, J, ae, E]; exact rfl)) (by simp only [zE, zG, op1, ev, lkp, am, ak, ax, acs, bf, mv1, mvC, Ty.dflt, reduceCtorEq, J, E, U, Z, V, Y, Mly.av]) ?_
 refine aa _ ?_; clear aa K0; simp only [put, app, af, aj, zE, zS, E]
 (refine ag rfl fun K0 aa => ?_; simp only [zE, op1, ev, lkp, am, ak, ev, reduceCtorEq, J, E, U, Z, V, Y, Tryd.td28, Mly.av]; refine aa _ ?_; clear aa K0; simp only [put, app, af, aj, zE, zS, E])
 refine aq ?_
 refine hK3 _ ?_; clear hK3; refine ai [0, 1, 2, 3, 6, 7, 8, 9] ?_; simp only [ad, lkp, zE, reduceCtorEq, J, ae, E]
 refine ah fun K4 hK4 => ?_
 refine ao hP hN rfl ?_
 iterate 2 (refine ag rfl fun K0 aa => ?_; simp only [zE, op1, ev, lkp, am, ak, aJ, aK, aI, ay, aH, aX, reduceCtorEq, J, E, U, Z, V, Y, Tryd.td28, Tryd.td4, Mly.av]; (repeat refine And.intro (by first | omega | assumption | exact rfl) ?_); refine aa _ ?_; clear aa K0; simp only [put, app, af, aj, zE, zS, E])
 refine aq ?_
 refine hK4 _ ?_; clear hK4; refine ai [0, 1, 2, 3, 6, 7, 8, 9, 15] ?_; simp only [ad, lkp, zE, reduceCtorEq, J, ae, E]
 refine aL (by simp only [ev, ad, lkp, zE, reduceCtorEq, J, ae, E]; exact rfl) (fun hc5 => ?_) (fun hc5 => ?_)
 ·(try simp only [zB, reduceCtorEq] at hc5)
  refine ah fun K6 hK6 => ?_
  refine ao hP hN rfl ?_
  iterate 4 (refine ag rfl fun K0 aa => ?_; simp only [zE, op1, ev, lkp, am, ak, ev, reduceCtorEq, J, E, U, Z, V, Y, Tryd.el25, Tryd.td25, Tryd.td28, Tryd.td4, Mly.av]; refine aa _ ?_; clear aa K0; simp only [put, app, af, aj, zE, zS, E])
  refine aq ?_
  refine hK6 _ ?_; clear hK6; refine ai [0, 1, 2, 3, 6, 7, 8, 9, 15] ?_; simp only [ad, lkp, zE, reduceCtorEq, J, ae, E]
  refine aU ?_
  refine ⟨by first | exact .inl rfl | exact .inr rfl, _, rfl, ?_⟩; simp only [fzV, fz1, fzC, List.map_cons, List.map_nil, ad, lkp, zE, reduceCtorEq, J, ae, E, Mly.av]
  unfold stW stE
  first
  | (rw [if_neg ‹¬bj m = 0›, if_neg (fun hh => ‹¬bj m = 0› hh.1)]; exact br ⟨aB (aQ rfl), aB (.refl _), aB (.refl _), trivial⟩)
  | (rw [if_pos ‹bj m = 0›, if_neg (fun hh => by omega), if_neg (by omega)]; exact br ⟨aB (aQ rfl), aB (.refl _), aB (.refl _), trivial⟩)
  | (rw [if_pos ‹bj m = 0›, if_pos (by refine ⟨by assumption, ?_⟩; omega), if_pos (by omega)]; exact br ⟨aB (.refl _), aB (.refl _), aB (.refl _), trivial⟩)
 ·(try simp only [zB, reduceCtorEq] at hc5)
  refine aT ?_
  refine hK2 _ ?_; clear hK2; refine ai [0, 1, 2, 3, 6, 7, 8, 9, 15] ?_; simp only [ad, lkp, zE, reduceCtorEq, J, ae, E]
  refine ah fun K7 hK7 => ?_
  refine ah fun K8 hK8 => ?_
  refine ao hP hN rfl ?_
  iterate 2 (refine ag rfl fun K0 aa => ?_; simp only [zE, op1, ev, lkp, am, ak, aJ, aK, aI, ay, aH, aX, reduceCtorEq, J, E, U, Z, V, Y, Tryd.td3, Tryd.td4, Mly.av]; (repeat refine And.intro (by first | omega | assumption | exact rfl) ?_); refine aa _ ?_; clear aa K0; simp only [put, app, af, aj, zE, zS, E])
  (refine ag rfl fun K0 aa => ?_; simp only [zE, op1, ev, lkp, am, ak, ev, reduceCtorEq, J, E, U, Z, V, Y, Tryd.td4, Mly.av]; refine aa _ ?_; clear aa K0; simp only [put, app, af, aj, zE, zS, E])
  refine' bn (want := false) 5 rfl (m := 19) (by simp only [ad, lkp, zE, reduceCtorEq, J, ae, E]; exact rfl) (by kernel_rfl) rfl rfl rfl rfl rfl (fun hg9 => ?a9) ?b9 ?c9
  case a9 =>
   have hq9 := hg9; (try simp only [zB, reduceCtorEq] at hg9); simp only [List.take_succ_cons, List.take_zero, List.cons_append, List.nil_append]
   (refine aG rfl fun K0 aa => ?_; simp only [zE, op1, ev, lkp, am, ak, ev, reduceCtorEq, J, E, U, Z, V, Y, Tryd.td3, Mly.av]; refine aa _ ?_; clear aa K0; simp only [put, app, af, aj, zE, zS, E])
   (refine aG rfl fun K0 aa => ?_; simp only [zE, op1, ev, lkp, am, ak, aA, reduceCtorEq, J, E, U, Z, V, Y, Tryd.st24, Tryd.td2, Tryd.td24, Mly.av]; (repeat refine And.intro (by first | omega | assumption | exact rfl) ?_); refine aa _ ?_; clear aa K0; simp only [put, app, af, aj, zE, zS, E])
   (refine aG rfl fun K0 aa => ?_; simp only [zE, op1, ev, lkp, am, ak, aE, Nat.mul_one, aC, aD, acs, Ty.dflt, zG, az, reduceCtorEq, J, E, U, Z, V, Y, Tryd.el22, Tryd.td22, Mly.av]; (repeat refine And.intro (by first | omega | assumption | exact rfl) ?_); refine aa _ ?_; clear aa K0; simp only [put, app, af, aj, zE, zS, E])
   (refine aG rfl fun K0 aa => ?_; simp only [zE, op1, ev, lkp, am, ak, aP, bT, bC, bu, bv, bP, Nat.div_one, aV, bz, Ty.size, aM, dite_true, reduceCtorEq, J, E, U, Z, V, Y, Tryd.el22, Tryd.td22, Tryd.td3, Mly.av]; (repeat refine And.intro (by first | omega | assumption | exact rfl) ?_); (first | refine aa _ ?_ | refine Or.inl (aa _ ?_)); clear aa K0; simp only [put, app, af, aj, zE, zS, E])
   (refine aG rfl fun K0 aa => ?_; simp only [zE, op1, ev, lkp, am, ak, aJ, aK, aI, ay, aH, aX, reduceCtorEq, J, E, U, Z, V, Y, Tryd.td3, Tryd.td4, Mly.av]; (repeat refine And.intro (by first | omega | assumption | exact rfl) ?_); refine aa _ ?_; clear aa K0; simp only [put, app, af, aj, zE, zS, E])
   (refine ag rfl fun K0 aa => ?_; simp only [zE, op1, ev, lkp, am, ak, bU, reduceCtorEq, J, E, U, Z, V, Y, Tryd.td4, Mly.av]; refine aa _ ?_; clear aa K0; simp only [put, app, af, aj, zE, zS, E])
   refine aq ?_
   refine ⟨by simp only [ad, lkp, zE, reduceCtorEq, J, ae, E]; exact rfl, rfl, ?_, rfl⟩; (repeat refine bo rfl ?_); exact bY (by exact rfl) hq9
  case b9 => exact bV (by first | rfl | (simp [cD]; done) | decide)
  simp only [bM, bB]
  (refine ag rfl fun K0 aa => ?_; simp only [zE, op1, ev, lkp, am, ak, ev, reduceCtorEq, J, E, U, Z, V, Y, Tryd.td4, Mly.av]; refine aa _ ?_; clear aa K0; simp only [put, app, af, aj, zE, zS, E])
  refine' bn (want := false) 2 rfl (m := 26) (by simp only [ad, lkp, zE, reduceCtorEq, J, ae, E]; exact rfl) (by kernel_rfl) rfl rfl rfl rfl rfl (fun hg10 => ?a10) ?b10 ?c10
  case a10 =>
   have hq10 := hg10; (try simp only [zB, reduceCtorEq] at hg10); simp only [List.take_succ_cons, List.take_zero, List.cons_append, List.nil_append]
   (refine aG rfl fun K0 aa => ?_; simp only [zE, op1, ev, lkp, am, ak, ev, reduceCtorEq, J, E, U, Z, V, Y, Tryd.td3, Mly.av]; refine aa _ ?_; clear aa K0; simp only [put, app, af, aj, zE, zS, E])
   (refine aG rfl fun K0 aa => ?_; simp only [zE, op1, ev, lkp, am, ak, aJ, aK, aI, ay, aH, aX, reduceCtorEq, J, E, U, Z, V, Y, Tryd.td3, Tryd.td4, Mly.av]; (repeat refine And.intro (by first | omega | assumption | exact rfl) ?_); refine aa _ ?_; clear aa K0; simp only [put, app, af, aj, zE, zS, E])
   (refine ag rfl fun K0 aa => ?_; simp only [zE, op1, ev, lkp, am, ak, bU, reduceCtorEq, J, E, U, Z, V, Y, Tryd.td4, Mly.av]; refine aa _ ?_; clear aa K0; simp only [put, app, af, aj, zE, zS, E])
   refine aq ?_
   refine ⟨by simp only [ad, lkp, zE, reduceCtorEq, J, ae, E]; exact rfl, rfl, ?_, rfl⟩; (repeat refine bo rfl ?_); exact bY (by exact rfl) hq10
  case b10 => exact bV (by first | rfl | (simp [cD]; done) | decide)
  simp only [bM, bB]
  (refine ag rfl fun K0 aa => ?_; simp only [zE, op1, ev, lkp, am, ak, ev, reduceCtorEq, J, E, U, Z, V, Y, Tryd.td4, Mly.av]; refine aa _ ?_; clear aa K0; simp only [put, app, af, aj, zE, zS, E])
  refine' bn (want := false) 5 rfl (m := 30) (by simp only [ad, lkp, zE, reduceCtorEq, J, ae, E]; exact rfl) (by kernel_rfl) rfl rfl rfl rfl rfl (fun hg11 => ?a11) ?b11 ?c11
  case a11 =>
   have hq11 := hg11; (try simp only [zB, reduceCtorEq] at hg11); simp only [List.take_succ_cons, List.take_zero, List.cons_append, List.nil_append]
   (refine aG rfl fun K0 aa => ?_; simp only [zE, op1, ev, lkp, am, ak, ev, reduceCtorEq, J, E, U, Z, V, Y, Tryd.td3, Mly.av]; refine aa _ ?_; clear aa K0; simp only [put, app, af, aj, zE, zS, E])
   (refine aG rfl fun K0 aa => ?_; simp only [zE, op1, ev, lkp, am, ak, aA, reduceCtorEq, J, E, U, Z, V, Y, Tryd.st24, Tryd.td2, Tryd.td24, Mly.av]; (repeat refine And.intro (by first | omega | assumption | exact rfl) ?_); refine aa _ ?_; clear aa K0; simp only [put, app, af, aj, zE, zS, E])
   (refine aG rfl fun K0 aa => ?_; simp only [zE, op1, ev, lkp, am, ak, aE, Nat.mul_one, aC, aD, acs, Ty.dflt, zG, az, reduceCtorEq, J, E, U, Z, V, Y, Tryd.el22, Tryd.td22, Mly.av]; (repeat refine And.intro (by first | omega | assumption | exact rfl) ?_); refine aa _ ?_; clear aa K0; simp only [put, app, af, aj, zE, zS, E])
   (refine aG rfl fun K0 aa => ?_; simp only [zE, op1, ev, lkp, am, ak, aP, bT, bC, bu, bv, bP, Nat.div_one, aV, bz, Ty.size, aM, dite_true, reduceCtorEq, J, E, U, Z, V, Y, Tryd.el22, Tryd.td22, Tryd.td3, Mly.av]; (repeat refine And.intro (by first | omega | assumption | exact rfl) ?_); (first | refine aa _ ?_ | refine Or.inl (aa _ ?_)); clear aa K0; simp only [put, app, af, aj, zE, zS, E])
   (refine aG rfl fun K0 aa => ?_; simp only [zE, op1, ev, lkp, am, ak, aJ, aK, aI, ay, aH, aX, reduceCtorEq, J, E, U, Z, V, Y, Tryd.td3, Tryd.td4, Mly.av]; (repeat refine And.intro (by first | omega | assumption | exact rfl) ?_); refine aa _ ?_; clear aa K0; simp only [put, app, af, aj, zE, zS, E])
   (refine ag rfl fun K0 aa => ?_; simp only [zE, op1, ev, lkp, am, ak, bU, reduceCtorEq, J, E, U, Z, V, Y, Tryd.td4, Mly.av]; refine aa _ ?_; clear aa K0; simp only [put, app, af, aj, zE, zS, E])
   refine aq ?_
   refine ⟨by simp only [ad, lkp, zE, reduceCtorEq, J, ae, E]; exact rfl, rfl, ?_, rfl⟩; (repeat refine bo rfl ?_); exact bY (by exact rfl) hq11
  case b11 => exact bV (by first | rfl | (simp [cD]; done) | decide)
  simp only [bM, bB]
  refine aq ?_
  refine hK8 _ ?_; clear hK8; refine ai [0, 1, 2, 3, 6, 7, 8, 9, 15, 36] ?_; simp only [ad, lkp, zE, reduceCtorEq, J, ae, E]
  refine aL (by simp only [ev, ad, lkp, zE, reduceCtorEq, J, ae, E]; exact rfl) (fun hc12 => ?_) (fun hc12 => ?_)
  ·(try simp only [zB, reduceCtorEq] at hc12)
   refine ah fun K13 hK13 => ?_
   refine ao hP hN rfl ?_
   iterate 3 (refine ag rfl fun K0 aa => ?_; simp only [zE, op1, ev, lkp, am, ak, ev, reduceCtorEq, J, E, U, Z, V, Y, Tryd.el25, Tryd.td25, Tryd.td28, Tryd.td4, Mly.av]; refine aa _ ?_; clear aa K0; simp only [put, app, af, aj, zE, zS, E])
   refine aq ?_
   refine hK13 _ ?_; clear hK13; refine ai [0, 1, 2, 3, 6, 7, 8, 9, 15, 36] ?_; simp only [ad, lkp, zE, reduceCtorEq, J, ae, E]
   refine aU ?_
   refine ⟨by first | exact .inl rfl | exact .inr rfl, _, rfl, ?_⟩; simp only [fzV, fz1, fzC, List.map_cons, List.map_nil, ad, lkp, zE, reduceCtorEq, J, ae, E, Mly.av]
   unfold stW stE
   first
   | (rw [if_neg ‹¬bj m = 0›, if_neg (fun hh => ‹¬bj m = 0› hh.1)]; exact br ⟨aB (aQ rfl), aB (.refl _), aB (.refl _), trivial⟩)
   | (rw [if_pos ‹bj m = 0›, if_neg (fun hh => by omega), if_neg (by omega)]; exact br ⟨aB (aQ rfl), aB (.refl _), aB (.refl _), trivial⟩)
   | (rw [if_pos ‹bj m = 0›, if_pos (by refine ⟨by assumption, ?_⟩; omega), if_pos (by omega)]; exact br ⟨aB (.refl _), aB (.refl _), aB (.refl _), trivial⟩)
  ·(try simp only [zB, reduceCtorEq] at hc12)
   refine aT ?_
   refine hK7 _ ?_; clear hK7; refine ai [0, 1, 2, 3, 6, 7, 8, 9, 15, 36] ?_; simp only [ad, lkp, zE, reduceCtorEq, J, ae, E]
   refine ah fun K14 hK14 => ?_
   refine ao hP hN rfl ?_
   iterate 5 (refine ag rfl fun K0 aa => ?_; simp only [zE, op1, ev, lkp, am, ak, aE, Nat.mul_one, aC, aD, acs, Ty.dflt, zG, az, cF, bl, aR, ax, reduceCtorEq, J, E, U, Z, V, Y, Tryd.fl82, Tryd.st24, Tryd.st82, Tryd.td24, Tryd.td3, Tryd.td82, Mly.av]; (repeat refine And.intro (by first | omega | assumption | exact rfl) ?_); (first | refine aa _ ?_ | refine Or.inl (aa _ ?_)); clear aa K0; simp only [put, app, af, aj, zE, zS, E])
   refine ag rfl fun K0 aa => ?_
   refine aW (h := aF (tQ m m s t (fX (by assumption)) (fX (by assumption)) rfl (by omega) (by omega))) rfl rfl (by first | exact rfl | (simp only [ev, ad, lkp, zE, reduceCtorEq, J, ae, E]; exact rfl)) (by simp only [zE, zG, op1, ev, lkp, am, ak, ax, acs, bf, mv1, mvC, Ty.dflt, reduceCtorEq, J, E, U, Z, V, Y, Mly.av]) ?_
   refine aa _ ?_; clear aa K0; simp only [put, app, af, aj, zE, zS, E]
   iterate 5 (refine ag rfl fun K0 aa => ?_; simp only [zE, op1, ev, lkp, am, ak, bS, reduceCtorEq, J, E, U, Z, V, Y, Tryd.el25, Tryd.td1, Tryd.td25, Tryd.td4, Mly.av]; refine aa _ ?_; clear aa K0; simp only [put, app, af, aj, zE, zS, E])
   refine aq ?_
   refine hK14 _ ?_; clear hK14; refine ai [0, 1, 2, 3, 6, 7, 8, 9, 10, 11, 15, 36] ?_; simp only [ad, lkp, zE, reduceCtorEq, J, ae, E]
   refine ah fun K15 hK15 => ?_
   refine ao hP hN rfl ?_
   iterate 5 (refine ag rfl fun K0 aa => ?_; simp only [zE, op1, ev, lkp, am, ak, ev, reduceCtorEq, J, E, U, Z, V, Y, Tryd.el25, Tryd.td25, Tryd.td28, Tryd.td4, Mly.av]; refine aa _ ?_; clear aa K0; simp only [put, app, af, aj, zE, zS, E])
   refine aq ?_
   refine hK15 _ ?_; clear hK15; refine ai [0, 1, 2, 3, 6, 7, 8, 9, 10, 11, 15, 36] ?_; simp only [ad, lkp, zE, reduceCtorEq, J, ae, E]
   refine aU ?_
   refine ⟨by first | exact .inl rfl | exact .inr rfl, _, rfl, ?_⟩; simp only [fzV, fz1, fzC, List.map_cons, List.map_nil, ad, lkp, zE, reduceCtorEq, J, ae, E, Mly.av]
   unfold stW stE
   first
   | (rw [if_neg ‹¬bj m = 0›, if_neg (fun hh => ‹¬bj m = 0› hh.1)]; exact br ⟨aB (aQ rfl), aB (.refl _), aB (.refl _), trivial⟩)
   | (rw [if_pos ‹bj m = 0›, if_neg (fun hh => by omega), if_neg (by omega)]; exact br ⟨aB (aQ rfl), aB (.refl _), aB (.refl _), trivial⟩)
   | (rw [if_pos ‹bj m = 0›, if_pos (by refine ⟨by assumption, ?_⟩; omega), if_pos (by omega)]; exact br ⟨aB (.refl _), aB (.refl _), aB (.refl _), trivial⟩)
end Go.Proofs.YtceafldjjedhcaaDoor
namespace Go.Proofs.YtceafldjjedhcaaDoor
open Go Go.AV
open Nat renaming reduceEqDiff → J, reduceAdd → E, reduceLeDiff → U, reduceLT → Z, reduceMul → V, reduceSub → Y
open List renaming set_cons_zero → aw, set_cons_succ → au
theorem wB (m : Mly) (s t : Int) (hm : MOK m) (hs : 0 ≤ s ∧ s < m.nx.length) (ht : 0 ≤ t ∧ t < m.nx.length) : cq Tryd.prog 17 [m.av, .one (.int .i64 s), .one (.int .i64 t)] (.tup [.one (.list (.int .i64) ((seS m m s t).getD [])), .one (.bool (seS m m s t).isSome), .one (.int .i64 0)]) := by
  have h := wW m s t
  unfold stW stE at h
  have hv := cI hm
  rw [if_pos ⟨hv, hs, ht⟩, if_pos hv, if_pos ⟨hs, ht⟩] at h
  exact h

end Go.Proofs.YtceafldjjedhcaaDoor
namespace Go.AV
open Nat renaming reduceEqDiff → J, reduceAdd → E, reduceLeDiff → U, reduceLT → Z, reduceMul → V, reduceSub → Y
open List renaming set_cons_zero → aw, set_cons_succ → au
/-plain-/
theorem qL {a b : Mly} (ha : MOK a) (hb : MOK b) (hi : a.inp = b.inp) : ∀ (f i : Nat) (l : List S3), WFS a b l → ∀ w, srS a b f i l = some w → w.length ≤ 16385
  | 0, _, _, _, w, h => by cases h
  | f + 1, i, l, hl, w, h => by
    simp only [srS] at h
    split at h
    · rename_i hil
      have h1 := hl.wl hil
      have h2 := hl.big ha hb
      have h3 := ha.i1
      split at h
      · simp only [Option.some.injEq] at h; subst h
        rw [List.length_append]; simp only [List.length_cons, List.length_nil]; omega
      · exact qL ha hb hi f (i + 1) _ (hl.row ha hb hi hil a.inp.toNat (by omega)) w h
    · cases h
theorem vz {a b : Mly} (ha : MOK a) (hb : MOK b) (hi : a.inp = b.inp) {s t : Int} (hs : 0 ≤ s ∧ s < a.nx.length) (ht : 0 ≤ t ∧ t < b.nx.length) : ((seS a b s t).getD []).length ≤ 16385 := by
  cases h : seS a b s t with
  | none => simp
  | some w => exact qL ha hb hi _ _ _ (jZ hs ht) w h
end Go.AV
namespace Go.Proofs.YtceafldjjedhcaaDoor
open Go Go.AV
open Nat renaming reduceEqDiff → J, reduceAdd → E, reduceLeDiff → U, reduceLT → Z, reduceMul → V, reduceSub → Y
open List renaming set_cons_zero → aw, set_cons_succ → au
set_option maxRecDepth 100000 in
set_option maxHeartbeats 1000000 in
theorem rL (m : Mly) (cl : List Int) : cq Tryd.prog 6 [m.av, .one (.list (.int .i64) cl)] (.tup [.one (.list (.int .i64) (wU m cl)), .one (.list (.int .i64) (wV m cl)), .one (.bool (eg m cl)), .one (.int .i64 (bE m cl))]) := by
 obtain ⟨p, hpt, hpn⟩ : ∃ p : Nat × Nat × Nat, ((cZ m cl).isSome = true → cZ m cl = some p) ∧ ((cZ m cl).isSome = false → p = (0, 0, 0)) := by
   cases hf : cZ m cl with
   | none => exact ⟨(0, 0, 0), fun h => by simp at h, fun _ => rfl⟩
   | some q => exact ⟨q, fun _ => rfl, fun h => by simp at h⟩
 refine bt Tryd.func6 rfl (by kernel_rfl) (Nat.le_of_ble_eq_true rfl) rfl fun C hP hN hB => ?_
 replace hN : C.N = 118 := hN
 simp only [ae, E]
 refine ah fun K1 hK1 => ?_
 refine ao hP hN rfl ?_
 iterate 5 (refine ag rfl fun K0 aa => ?_; simp only [zE, op1, ev, lkp, am, ak, dn, ax, reduceCtorEq, J, E, U, Z, V, Y, Tryd.el25, Tryd.st24, Tryd.td24, Tryd.td25, Tryd.td28, Tryd.td4, Mly.av]; (repeat refine And.intro (by first | omega | assumption | exact rfl) ?_); refine aa _ ?_; clear aa K0; simp only [put, app, af, aj, zE, zS, E])
 refine aq ?_
 refine hK1 _ ?_; clear hK1; refine ai [0, 1, 2, 4, 5, 6, 7] ?_; simp only [ad, lkp, zE, reduceCtorEq, J, ae, E]
 refine ah fun K2 hK2 => ?_
 refine ah fun K3 hK3 => ?_
 refine ao hP hN rfl ?_
 iterate 2 (refine ag rfl fun K0 aa => ?_; simp only [zE, op1, ev, lkp, am, ak, aE, Nat.mul_one, aC, aD, acs, Ty.dflt, zG, az, reduceCtorEq, J, E, U, Z, V, Y, Tryd.el25, Tryd.st24, Tryd.td24, Tryd.td25, Mly.av]; (repeat refine And.intro (by first | omega | assumption | exact rfl) ?_); refine aa _ ?_; clear aa K0; simp only [put, app, af, aj, zE, zS, E])
 refine ag rfl fun K0 aa => ?_
 refine aW (h := aF (tm m cl)) rfl rfl (by first | exact rfl | (simp only [ev, ad, lkp, zE, reduceCtorEq, J, ae, E]; exact rfl)) (by simp only [zE, zG, op1, ev, lkp, am, ak, ax, acs, bf, mv1, mvC, Ty.dflt, reduceCtorEq, J, E, U, Z, V, Y, Mly.av]) ?_
 refine aa _ ?_; clear aa K0; simp only [put, app, af, aj, zE, zS, E]
 (refine ag rfl fun K0 aa => ?_; simp only [zE, op1, ev, lkp, am, ak, ev, reduceCtorEq, J, E, U, Z, V, Y, Tryd.td28, Mly.av]; refine aa _ ?_; clear aa K0; simp only [put, app, af, aj, zE, zS, E])
 refine aq ?_
 refine hK3 _ ?_; clear hK3; refine ai [0, 1, 2, 4, 5, 6, 7, 8] ?_; simp only [ad, lkp, zE, reduceCtorEq, J, ae, E]
 refine ah fun K4 hK4 => ?_
 refine ao hP hN rfl ?_
 iterate 2 (refine ag rfl fun K0 aa => ?_; simp only [zE, op1, ev, lkp, am, ak, aJ, aK, aI, ay, aH, aX, reduceCtorEq, J, E, U, Z, V, Y, Tryd.td28, Tryd.td4, Mly.av]; (repeat refine And.intro (by first | omega | assumption | exact rfl) ?_); refine aa _ ?_; clear aa K0; simp only [put, app, af, aj, zE, zS, E])
 refine aq ?_
 refine hK4 _ ?_; clear hK4; refine ai [0, 1, 2, 4, 5, 6, 7, 8, 22] ?_; simp only [ad, lkp, zE, reduceCtorEq, J, ae, E]
 refine aL (by simp only [ev, ad, lkp, zE, reduceCtorEq, J, ae, E]; exact rfl) (fun hc5 => ?_) (fun hc5 => ?_)
 ·(try simp only [zB, reduceCtorEq] at hc5)
  refine ah fun K6 hK6 => ?_
  refine ao hP hN rfl ?_
  iterate 5 (refine ag rfl fun K0 aa => ?_; simp only [zE, op1, ev, lkp, am, ak, ev, reduceCtorEq, J, E, U, Z, V, Y, Tryd.el25, Tryd.td25, Tryd.td28, Tryd.td4, Mly.av]; refine aa _ ?_; clear aa K0; simp only [put, app, af, aj, zE, zS, E])
  refine aq ?_
  refine hK6 _ ?_; clear hK6; refine ai [0, 1, 2, 4, 5, 6, 7, 8, 22] ?_; simp only [ad, lkp, zE, reduceCtorEq, J, ae, E]
  refine aU ?_
  refine ⟨by first | exact .inl rfl | exact .inr rfl, _, rfl, ?_⟩; simp only [fzV, fz1, fzC, List.map_cons, List.map_nil, ad, lkp, zE, reduceCtorEq, J, ae, E, Mly.av]
  unfold wU wV eg
  first
  | (rw [if_neg ‹¬bE m cl = 0›, if_neg ‹¬bE m cl = 0›, if_neg ‹¬bE m cl = 0›]; exact br ⟨aB (aQ rfl), aB (aQ rfl), aB (.refl _), aB (.refl _), trivial⟩)
  | (rw [if_pos ‹bE m cl = 0›, if_pos ‹bE m cl = 0›, if_pos ‹bE m cl = 0›, ‹bE m cl = 0›, hfn]; exact br ⟨aB (aQ rfl), aB (aQ rfl), aB (.refl _), aB (.refl _), trivial⟩)
  | (rw [if_pos ‹bE m cl = 0›, if_pos ‹bE m cl = 0›, if_pos ‹bE m cl = 0›, ‹bE m cl = 0›, hfs]
     have hO : m.out (m.exR.getD p.1 eX0).1 p.2.1 = m.out (m.exR.getD p.1 eX0).1 p.2.2 := by assumption
     have hT : wTl m p = _ := if_pos hO
     dsimp only; rw [hT]; refine VLE.of_eq ?_; simp [Mly.nxt, List.append_assoc])
  | (rw [if_pos ‹bE m cl = 0›, if_pos ‹bE m cl = 0›, if_pos ‹bE m cl = 0›, ‹bE m cl = 0›, hfs]
     have hO : ¬ m.out (m.exR.getD p.1 eX0).1 p.2.1 = m.out (m.exR.getD p.1 eX0).1 p.2.2 := by assumption
     have hT : wTl m p = _ := if_neg hO
     dsimp only; rw [hT]; refine VLE.of_eq ?_; simp [Mly.nxt, List.append_assoc])
 ·(try simp only [zB, reduceCtorEq] at hc5)
  refine aT ?_
  refine hK2 _ ?_; clear hK2; refine ai [0, 1, 2, 4, 5, 6, 7, 8, 22] ?_; simp only [ad, lkp, zE, reduceCtorEq, J, ae, E]
  refine ah fun K7 hK7 => ?_
  refine ao hP hN rfl ?_
  (refine ag rfl fun K0 aa => ?_; simp only [zE, op1, ev, lkp, am, ak, aE, Nat.mul_one, aC, aD, acs, Ty.dflt, zG, az, reduceCtorEq, J, E, U, Z, V, Y, Tryd.st24, Tryd.td24, Mly.av]; (repeat refine And.intro (by first | omega | assumption | exact rfl) ?_); refine aa _ ?_; clear aa K0; simp only [put, app, af, aj, zE, zS, E])
  refine ag rfl fun K0 aa => ?_
  refine aW (h := aF (je m (cI (fx (by assumption)).ok))) rfl rfl (by first | exact rfl | (simp only [ev, ad, lkp, zE, reduceCtorEq, J, ae, E]; exact rfl)) (by simp only [zE, zG, op1, ev, lkp, am, ak, ax, acs, bf, mv1, mvC, Ty.dflt, reduceCtorEq, J, E, U, Z, V, Y, Mly.av]) ?_
  refine aa _ ?_; clear aa K0; simp only [put, app, af, aj, zE, zS, E]
  iterate 2 (refine ag rfl fun K0 aa => ?_; simp only [zE, op1, ev, lkp, am, ak, cC, bJ, Nat.mul_one, ax, aR, aM, acs, Ty.size, Ty.dflt, zG, reduceCtorEq, J, E, U, Z, V, Y, Tryd.st48, Tryd.td48, Mly.av]; (repeat refine And.intro (by first | omega | assumption | exact rfl) ?_); (first | refine aa _ ?_ | refine Or.inl (aa _ ?_)); clear aa K0; simp only [put, app, af, aj, zE, zS, E])
  refine aq ?_
  refine hK7 _ ?_; clear hK7; refine ai [0, 1, 2, 4, 5, 6, 7, 8, 9, 22] ?_; simp only [ad, lkp, zE, reduceCtorEq, J, ae, E]
  refine ah fun K8 hK8 => ?_
  refine ao hP hN rfl ?_
  iterate 2 (refine ag rfl fun K0 aa => ?_; simp only [zE, op1, ev, lkp, am, ak, aE, Nat.mul_one, aC, aD, acs, Ty.dflt, zG, az, reduceCtorEq, J, E, U, Z, V, Y, Tryd.el25, Tryd.st48, Tryd.td25, Tryd.td48, Mly.av]; (repeat refine And.intro (by first | omega | assumption | exact rfl) ?_); refine aa _ ?_; clear aa K0; simp only [put, app, af, aj, zE, zS, E])
  refine ag rfl fun K0 aa => ?_
  refine aW (h := aF (nX m cl (fx (by assumption)) p _ rfl hpt hpn)) rfl rfl (by first | exact rfl | (simp only [ev, ad, lkp, zE, reduceCtorEq, J, ae, E]; exact rfl)) (by simp only [zE, zG, op1, ev, lkp, am, ak, ax, acs, bf, mv1, mvC, Ty.dflt, reduceCtorEq, J, E, U, Z, V, Y, Mly.av]) ?_
  refine aa _ ?_; clear aa K0; simp only [put, app, af, aj, zE, zS, E]
  iterate 6 (refine ag rfl fun K0 aa => ?_; simp only [zE, op1, ev, lkp, am, ak, bS, cC, bJ, Nat.mul_one, ax, aR, aM, acs, Ty.size, Ty.dflt, zG, reduceCtorEq, J, E, U, Z, V, Y, Tryd.fl51, Tryd.st51, Tryd.td1, Tryd.td4, Tryd.td51, Mly.av]; (repeat refine And.intro (by first | omega | assumption | exact rfl) ?_); (first | refine aa _ ?_ | refine Or.inl (aa _ ?_)); clear aa K0; simp only [put, app, af, aj, zE, zS, E])
  refine aq ?_
  refine hK8 _ ?_; clear hK8; refine ai [0, 1, 2, 4, 5, 6, 7, 8, 9, 10, 11, 22] ?_; simp only [ad, lkp, zE, reduceCtorEq, J, ae, E]
  refine ah fun K9 hK9 => ?_
  refine ah fun K10 hK10 => ?_
  refine ao hP hN rfl ?_
  iterate 2 (refine ag rfl fun K0 aa => ?_; simp only [zE, op1, ev, lkp, am, ak, fw, reduceCtorEq, J, E, U, Z, V, Y, Tryd.td4, Mly.av]; (repeat refine And.intro (by first | omega | assumption | exact rfl) ?_); refine aa _ ?_; clear aa K0; simp only [put, app, af, aj, zE, zS, E])
  refine aq ?_
  refine hK10 _ ?_; clear hK10; refine ai [0, 1, 2, 4, 5, 6, 7, 8, 9, 10, 11, 22, 33] ?_; simp only [ad, lkp, zE, reduceCtorEq, J, ae, E]
  refine aL (by simp only [ev, ad, lkp, zE, reduceCtorEq, J, ae, E]; exact rfl) (fun hc11 => ?_) (fun hc11 => ?_)
  ·(try simp only [zB, reduceCtorEq] at hc11)
   have hfn : cZ m cl = none := by simpa using hc11
   refine ah fun K12 hK12 => ?_
   refine ao hP hN rfl ?_
   iterate 4 (refine ag rfl fun K0 aa => ?_; simp only [zE, op1, ev, lkp, am, ak, ev, reduceCtorEq, J, E, U, Z, V, Y, Tryd.el25, Tryd.td25, Tryd.td28, Tryd.td4, Mly.av]; refine aa _ ?_; clear aa K0; simp only [put, app, af, aj, zE, zS, E])
   refine aq ?_
   refine hK12 _ ?_; clear hK12; refine ai [0, 1, 2, 4, 5, 6, 7, 8, 9, 10, 11, 22, 33] ?_; simp only [ad, lkp, zE, reduceCtorEq, J, ae, E]
   refine aU ?_
   refine ⟨by first | exact .inl rfl | exact .inr rfl, _, rfl, ?_⟩; simp only [fzV, fz1, fzC, List.map_cons, List.map_nil, ad, lkp, zE, reduceCtorEq, J, ae, E, Mly.av]
   unfold wU wV eg
   first
   | (rw [if_neg ‹¬bE m cl = 0›, if_neg ‹¬bE m cl = 0›, if_neg ‹¬bE m cl = 0›]; exact br ⟨aB (aQ rfl), aB (aQ rfl), aB (.refl _), aB (.refl _), trivial⟩)
   | (rw [if_pos ‹bE m cl = 0›, if_pos ‹bE m cl = 0›, if_pos ‹bE m cl = 0›, ‹bE m cl = 0›, hfn]; exact br ⟨aB (aQ rfl), aB (aQ rfl), aB (.refl _), aB (.refl _), trivial⟩)
   | (rw [if_pos ‹bE m cl = 0›, if_pos ‹bE m cl = 0›, if_pos ‹bE m cl = 0›, ‹bE m cl = 0›, hfs]
      have hO : m.out (m.exR.getD p.1 eX0).1 p.2.1 = m.out (m.exR.getD p.1 eX0).1 p.2.2 := by assumption
      have hT : wTl m p = _ := if_pos hO
      dsimp only; rw [hT]; refine VLE.of_eq ?_; simp [Mly.nxt, List.append_assoc])
   | (rw [if_pos ‹bE m cl = 0›, if_pos ‹bE m cl = 0›, if_pos ‹bE m cl = 0›, ‹bE m cl = 0›, hfs]
      have hO : ¬ m.out (m.exR.getD p.1 eX0).1 p.2.1 = m.out (m.exR.getD p.1 eX0).1 p.2.2 := by assumption
      have hT : wTl m p = _ := if_neg hO
      dsimp only; rw [hT]; refine VLE.of_eq ?_; simp [Mly.nxt, List.append_assoc])
  ·(try simp only [zB, reduceCtorEq] at hc11)
   have hfs : cZ m cl = some p := hpt (by simpa using hc11)
   have hk := fx (m := m) (cl := cl) (by assumption); have hm := hk.ok; have hlen := hk.len; have hi1 := hm.i1; have hi2 := hm.i2; have hn2 := hm.n2; have hol := hm.ol
   have hps := jn hfs; have hwx := iy hm; have hxl := hwx.le; have hfx := cS m.exR; have hsx := dJ m.exR; have hgx := fI hps.1.1; have hgs := pW hps.1.1; have hat := hwx.at_ hps.1.1; have hwl := hwx.wl _ (kz hps.1.1)
   have har := hm.rl (m.exR.getD p.1 eX0).1.toNat (by omega); have haq := hm.ql (m.exR.getD p.1 eX0).1.toNat (by omega)
   have hnc : 0 ≤ ((m.nx.getD (m.exR.getD p.1 eX0).1.toNat []).getD (p.2.1) 0) ∧ ((m.nx.getD (m.exR.getD p.1 eX0).1.toNat []).getD (p.2.1) 0) < m.nx.length := hm.nr (m.exR.getD p.1 eX0).1.toNat p.2.1 (by omega) (by omega)
   have hnd : 0 ≤ ((m.nx.getD (m.exR.getD p.1 eX0).1.toNat []).getD (p.2.2) 0) ∧ ((m.nx.getD (m.exR.getD p.1 eX0).1.toNat []).getD (p.2.2) 0) < m.nx.length := hm.nr (m.exR.getD p.1 eX0).1.toNat p.2.2 (by omega) (by omega)
   have hsl := vz hm hm rfl hnc hnd
   refine aT ?_
   refine hK9 _ ?_; clear hK9; refine ai [0, 1, 2, 4, 5, 6, 7, 8, 9, 10, 11, 22, 33] ?_; simp only [ad, lkp, zE, reduceCtorEq, J, ae, E]
   refine ah fun K13 hK13 => ?_
   refine ao hP hN rfl ?_
   iterate 7 (refine ag rfl fun K0 aa => ?_; simp only [zE, op1, ev, lkp, am, ak, aA, aE, Nat.mul_one, aC, aD, acs, Ty.dflt, zG, az, aS, Ty.size, ne_eq, not_false_eq_true, Int.natCast_one, Int.mul_one, reduceCtorEq, J, E, U, Z, V, Y, Tryd.el25, Tryd.fl51, Tryd.st48, Tryd.st51, Tryd.td1, Tryd.td25, Tryd.td3, Tryd.td48, Tryd.td51, Mly.av, hgx, cS]; (repeat refine And.intro (by first | omega | assumption | exact rfl) ?_); refine aa _ ?_; clear aa K0; simp only [put, app, af, aj, zE, zS, E])
   refine aq ?_
   refine hK13 _ ?_; clear hK13; refine ai [0, 1, 2, 4, 5, 6, 7, 8, 9, 10, 11, 12, 22, 33] ?_; simp only [ad, lkp, zE, reduceCtorEq, J, ae, E]
   refine ah fun K14 hK14 => ?_
   refine cB hP hN Tryd.mixed rfl ?_
   iterate 10 (refine ag rfl fun K0 aa => ?_; simp only [zE, op1, ev, lkp, am, ak, aA, aE, Nat.mul_one, aC, aD, acs, Ty.dflt, zG, az, aS, Ty.size, ne_eq, not_false_eq_true, Int.natCast_one, Int.mul_one, b0, bl, c8, rep, aM, aR, ax, reduceCtorEq, J, E, U, Z, V, Y, Tryd.el22, Tryd.el25, Tryd.fl51, Tryd.st48, Tryd.st51, Tryd.td1, Tryd.td2, Tryd.td22, Tryd.td25, Tryd.td3, Tryd.td48, Tryd.td51, Mly.av, hgs, dJ]; (repeat refine And.intro (by first | omega | assumption | exact rfl) ?_); (first | refine aa _ ?_ | refine Or.inl (aa _ ?_)); clear aa K0; simp only [put, app, af, aj, zE, zS, E])
   refine ag rfl fun K0 aa => ?_
   refine aW (h := aF (fk [(m.exR.getD p.1 eX0).2, [(p.2.1 : Int)]] (by rw [eW]; omega))) rfl rfl (by first | exact rfl | (simp only [ev, ad, lkp, zE, reduceCtorEq, J, ae, E]; exact rfl)) (by simp only [zE, zG, op1, ev, lkp, am, ak, ax, acs, bf, mv1, mvC, Ty.dflt, reduceCtorEq, J, E, U, Z, V, Y, Mly.av, hgs, dJ]) ?_
   refine aa _ ?_; clear aa K0; simp only [put, app, af, aj, zE, zS, E]
   iterate 10 (refine ag rfl fun K0 aa => ?_; simp only [zE, op1, ev, lkp, am, ak, aA, aE, Nat.mul_one, aC, aD, acs, Ty.dflt, zG, az, aS, Ty.size, ne_eq, not_false_eq_true, Int.natCast_one, Int.mul_one, b0, bl, c8, rep, aM, aR, ax, reduceCtorEq, J, E, U, Z, V, Y, Tryd.el22, Tryd.el25, Tryd.fl51, Tryd.st48, Tryd.st51, Tryd.td1, Tryd.td2, Tryd.td22, Tryd.td25, Tryd.td3, Tryd.td48, Tryd.td51, Mly.av, hgs, dJ]; (repeat refine And.intro (by first | omega | assumption | exact rfl) ?_); (first | refine aa _ ?_ | refine Or.inl (aa _ ?_)); clear aa K0; simp only [put, app, af, aj, zE, zS, E])
   refine ag rfl fun K0 aa => ?_
   refine aW (h := aF (fk [(m.exR.getD p.1 eX0).2, [(p.2.2 : Int)]] (by rw [eW]; omega))) rfl rfl (by first | exact rfl | (simp only [ev, ad, lkp, zE, reduceCtorEq, J, ae, E]; exact rfl)) (by simp only [zE, zG, op1, ev, lkp, am, ak, ax, acs, bf, mv1, mvC, Ty.dflt, reduceCtorEq, J, E, U, Z, V, Y, Mly.av, hgs, dJ]) ?_
   refine aa _ ?_; clear aa K0; simp only [put, app, af, aj, zE, zS, E]
   iterate 2 (refine ag rfl fun K0 aa => ?_; simp only [zE, op1, ev, lkp, am, ak, ev, reduceCtorEq, J, E, U, Z, V, Y, Tryd.el25, Tryd.td25, Mly.av, hgs, dJ]; refine aa _ ?_; clear aa K0; simp only [put, app, af, aj, zE, zS, E])
   refine aq ?_
   refine ⟨by kernel_rfl, ?_⟩
   refine hK14 _ ?_; clear hK14; refine ai [0, 1, 2, 4, 5, 6, 7, 8, 9, 10, 11, 12, 13, 14, 22, 33] ?_; simp only [ad, lkp, zE, reduceCtorEq, J, ae, E]
   refine ah fun K15 hK15 => ?_
   refine ah fun K16 hK16 => ?_
   refine cB hP hN Tryd.mixed rfl ?_
   iterate 19 (refine ag rfl fun K0 aa => ?_; simp only [zE, op1, ev, lkp, am, ak, aA, aE, Nat.mul_one, aC, aD, acs, Ty.dflt, zG, az, aS, Ty.size, ne_eq, not_false_eq_true, Int.natCast_one, Int.mul_one, aJ, aK, aI, ay, aH, aX, reduceCtorEq, J, E, U, Z, V, Y, Tryd.el22, Tryd.el25, Tryd.fl51, Tryd.st24, Tryd.st51, Tryd.td1, Tryd.td2, Tryd.td22, Tryd.td24, Tryd.td25, Tryd.td3, Tryd.td4, Tryd.td51, Mly.av]; (repeat refine And.intro (by first | omega | assumption | exact rfl) ?_); refine aa _ ?_; clear aa K0; simp only [put, app, af, aj, zE, zS, E])
   refine aq ?_
   refine ⟨by kernel_rfl, ?_⟩
   refine hK16 _ ?_; clear hK16; refine ai [0, 1, 2, 4, 5, 6, 7, 8, 9, 10, 11, 12, 13, 14, 22, 33, 80] ?_; simp only [ad, lkp, zE, reduceCtorEq, J, ae, E]
   refine aL (by simp only [ev, ad, lkp, zE, reduceCtorEq, J, ae, E]; exact rfl) (fun hc17 => ?_) (fun hc17 => ?_)
   ·(try simp only [zB, reduceCtorEq] at hc17)
    refine ah fun K18 hK18 => ?_
    refine cB hP hN Tryd.mixed rfl ?_
    iterate 19 (refine ag rfl fun K0 aa => ?_; simp only [zE, op1, ev, lkp, am, ak, aE, Nat.mul_one, aC, aD, acs, Ty.dflt, zG, az, aA, aS, Ty.size, ne_eq, not_false_eq_true, Int.natCast_one, Int.mul_one, reduceCtorEq, J, E, U, Z, V, Y, Tryd.el22, Tryd.el25, Tryd.fl51, Tryd.st24, Tryd.st51, Tryd.td1, Tryd.td2, Tryd.td22, Tryd.td24, Tryd.td25, Tryd.td3, Tryd.td51, Mly.av]; (repeat refine And.intro (by first | omega | assumption | exact rfl) ?_); refine aa _ ?_; clear aa K0; simp only [put, app, af, aj, zE, zS, E])
    refine ag rfl fun K0 aa => ?_
    refine aW (h := aF (wB m ((m.nx.getD (m.exR.getD p.1 eX0).1.toNat []).getD (p.2.1) 0) ((m.nx.getD (m.exR.getD p.1 eX0).1.toNat []).getD (p.2.2) 0) hm hnc hnd)) rfl rfl (by first | exact rfl | (simp only [ev, ad, lkp, zE, reduceCtorEq, J, ae, E]; exact rfl)) (by simp only [zE, zG, op1, ev, lkp, am, ak, ax, acs, bf, mv1, mvC, Ty.dflt, reduceCtorEq, J, E, U, Z, V, Y, Mly.av]) ?_
    refine aa _ ?_; clear aa K0; simp only [put, app, af, aj, zE, zS, E]
    iterate 7 (refine ag rfl fun K0 aa => ?_; simp only [zE, op1, ev, lkp, am, ak, bS, reduceCtorEq, J, E, U, Z, V, Y, Tryd.el25, Tryd.td1, Tryd.td2, Tryd.td25, Tryd.td28, Tryd.td4, Mly.av]; refine aa _ ?_; clear aa K0; simp only [put, app, af, aj, zE, zS, E])
    refine aq ?_
    refine ⟨by kernel_rfl, ?_⟩
    refine hK18 _ ?_; clear hK18; refine ai [0, 1, 2, 4, 5, 6, 7, 8, 9, 10, 11, 12, 13, 14, 15, 17, 22, 33, 80] ?_; simp only [ad, lkp, zE, reduceCtorEq, J, ae, E]
    refine ah fun K19 hK19 => ?_
    refine ah fun K20 hK20 => ?_
    refine ao hP hN rfl ?_
    iterate 2 (refine ag rfl fun K0 aa => ?_; simp only [zE, op1, ev, lkp, am, ak, aJ, aK, aI, ay, aH, aX, reduceCtorEq, J, E, U, Z, V, Y, Tryd.td28, Tryd.td4, Mly.av]; (repeat refine And.intro (by first | omega | assumption | exact rfl) ?_); refine aa _ ?_; clear aa K0; simp only [put, app, af, aj, zE, zS, E])
    refine aq ?_
    refine hK20 _ ?_; clear hK20; refine ai [0, 1, 2, 4, 5, 6, 7, 8, 9, 10, 11, 12, 13, 14, 15, 17, 22, 33, 80, 106] ?_; simp only [ad, lkp, zE, reduceCtorEq, J, ae, E]
    refine aL (by simp only [ev, ad, lkp, zE, reduceCtorEq, J, ae, E]; exact rfl) (fun hc21 => ?_) (fun hc21 => ?_)
    · exfalso; (try simp only [zB, reduceCtorEq] at hc21); all_goals (first | (cases hc21; done) | omega | (simp at hc21; done) | (simp_all; done))
    ·(try simp only [zB, reduceCtorEq] at hc21)
     refine aT ?_
     refine hK19 _ ?_; clear hK19; refine ai [0, 1, 2, 4, 5, 6, 7, 8, 9, 10, 11, 12, 13, 14, 15, 17, 22, 33, 80, 106] ?_; simp only [ad, lkp, zE, reduceCtorEq, J, ae, E]
     refine ao hP hN rfl ?_
     iterate 3 (refine ag rfl fun K0 aa => ?_; simp only [zE, op1, ev, lkp, am, ak, b0, bl, c8, rep, aM, aR, ax, Ty.size, reduceCtorEq, J, E, U, Z, V, Y, Tryd.el22, Tryd.el25, Tryd.td2, Tryd.td22, Tryd.td25, Mly.av]; (repeat refine And.intro (by first | omega | assumption | exact rfl) ?_); (first | refine aa _ ?_ | refine Or.inl (aa _ ?_)); clear aa K0; simp only [put, app, af, aj, zE, zS, E])
     refine ag rfl fun K0 aa => ?_
     refine aW (h := aF (fk [[(m.exR.getD p.1 eX0).2, [(p.2.1 : Int)]].flatten, ((seS m m ((m.nx.getD (m.exR.getD p.1 eX0).1.toNat []).getD (p.2.1) 0) ((m.nx.getD (m.exR.getD p.1 eX0).1.toNat []).getD (p.2.2) 0)).getD [])] (by have hq := hsl; have hq2 := hwl; revert hq hq2; simp; omega))) rfl rfl (by first | exact rfl | (simp only [ev, ad, lkp, zE, reduceCtorEq, J, ae, E]; exact rfl)) (by simp only [zE, zG, op1, ev, lkp, am, ak, ax, acs, bf, mv1, mvC, Ty.dflt, reduceCtorEq, J, E, U, Z, V, Y, Mly.av]) ?_
     refine aa _ ?_; clear aa K0; simp only [put, app, af, aj, zE, zS, E]
     iterate 3 (refine ag rfl fun K0 aa => ?_; simp only [zE, op1, ev, lkp, am, ak, b0, bl, c8, rep, aM, aR, ax, Ty.size, reduceCtorEq, J, E, U, Z, V, Y, Tryd.el22, Tryd.el25, Tryd.td2, Tryd.td22, Tryd.td25, Mly.av]; (repeat refine And.intro (by first | omega | assumption | exact rfl) ?_); (first | refine aa _ ?_ | refine Or.inl (aa _ ?_)); clear aa K0; simp only [put, app, af, aj, zE, zS, E])
     refine ag rfl fun K0 aa => ?_
     refine aW (h := aF (fk [[(m.exR.getD p.1 eX0).2, [(p.2.2 : Int)]].flatten, ((seS m m ((m.nx.getD (m.exR.getD p.1 eX0).1.toNat []).getD (p.2.1) 0) ((m.nx.getD (m.exR.getD p.1 eX0).1.toNat []).getD (p.2.2) 0)).getD [])] (by have hq := hsl; have hq2 := hwl; revert hq hq2; simp; omega))) rfl rfl (by first | exact rfl | (simp only [ev, ad, lkp, zE, reduceCtorEq, J, ae, E]; exact rfl)) (by simp only [zE, zG, op1, ev, lkp, am, ak, ax, acs, bf, mv1, mvC, Ty.dflt, reduceCtorEq, J, E, U, Z, V, Y, Mly.av]) ?_
     refine aa _ ?_; clear aa K0; simp only [put, app, af, aj, zE, zS, E]
     iterate 2 (refine ag rfl fun K0 aa => ?_; simp only [zE, op1, ev, lkp, am, ak, ev, reduceCtorEq, J, E, U, Z, V, Y, Tryd.el25, Tryd.td25, Mly.av]; refine aa _ ?_; clear aa K0; simp only [put, app, af, aj, zE, zS, E])
     refine aq ?_
     refine hK15 _ ?_; clear hK15; refine ai [0, 1, 2, 4, 5, 6, 7, 8, 9, 10, 11, 12, 13, 14, 15, 17, 22, 33, 80, 106] ?_; simp only [ad, lkp, zE, reduceCtorEq, J, ae, E]
     refine ah fun K22 hK22 => ?_
     refine ao hP hN rfl ?_
     iterate 6 (refine ag rfl fun K0 aa => ?_; simp only [zE, op1, ev, lkp, am, ak, ev, reduceCtorEq, J, E, U, Z, V, Y, Tryd.el25, Tryd.td25, Tryd.td28, Tryd.td4, Mly.av]; refine aa _ ?_; clear aa K0; simp only [put, app, af, aj, zE, zS, E])
     refine aq ?_
     refine hK22 _ ?_; clear hK22; refine ai [0, 1, 2, 4, 5, 6, 7, 8, 9, 10, 11, 12, 13, 14, 15, 17, 22, 33, 80, 106] ?_; simp only [ad, lkp, zE, reduceCtorEq, J, ae, E]
     refine aU ?_
     refine ⟨by first | exact .inl rfl | exact .inr rfl, _, rfl, ?_⟩; simp only [fzV, fz1, fzC, List.map_cons, List.map_nil, ad, lkp, zE, reduceCtorEq, J, ae, E, Mly.av]
     unfold wU wV eg
     first
     | (rw [if_neg ‹¬bE m cl = 0›, if_neg ‹¬bE m cl = 0›, if_neg ‹¬bE m cl = 0›]; exact br ⟨aB (aQ rfl), aB (aQ rfl), aB (.refl _), aB (.refl _), trivial⟩)
     | (rw [if_pos ‹bE m cl = 0›, if_pos ‹bE m cl = 0›, if_pos ‹bE m cl = 0›, ‹bE m cl = 0›, hfn]; exact br ⟨aB (aQ rfl), aB (aQ rfl), aB (.refl _), aB (.refl _), trivial⟩)
     | (rw [if_pos ‹bE m cl = 0›, if_pos ‹bE m cl = 0›, if_pos ‹bE m cl = 0›, ‹bE m cl = 0›, hfs]
        have hO : m.out (m.exR.getD p.1 eX0).1 p.2.1 = m.out (m.exR.getD p.1 eX0).1 p.2.2 := by assumption
        have hT : wTl m p = _ := if_pos hO
        dsimp only; rw [hT]; refine VLE.of_eq ?_; simp [Mly.nxt, List.append_assoc])
     | (rw [if_pos ‹bE m cl = 0›, if_pos ‹bE m cl = 0›, if_pos ‹bE m cl = 0›, ‹bE m cl = 0›, hfs]
        have hO : ¬ m.out (m.exR.getD p.1 eX0).1 p.2.1 = m.out (m.exR.getD p.1 eX0).1 p.2.2 := by assumption
        have hT : wTl m p = _ := if_neg hO
        dsimp only; rw [hT]; refine VLE.of_eq ?_; simp [Mly.nxt, List.append_assoc])
   ·(try simp only [zB, reduceCtorEq] at hc17)
    refine aT ?_
    refine hK15 _ ?_; clear hK15; refine ai [0, 1, 2, 4, 5, 6, 7, 8, 9, 10, 11, 12, 13, 14, 22, 33, 80] ?_; simp only [ad, lkp, zE, reduceCtorEq, J, ae, E]
    refine ah fun K23 hK23 => ?_
    refine ao hP hN rfl ?_
    iterate 6 (refine ag rfl fun K0 aa => ?_; simp only [zE, op1, ev, lkp, am, ak, ev, reduceCtorEq, J, E, U, Z, V, Y, Tryd.el25, Tryd.td25, Tryd.td28, Tryd.td4, Mly.av]; refine aa _ ?_; clear aa K0; simp only [put, app, af, aj, zE, zS, E])
    refine aq ?_
    refine hK23 _ ?_; clear hK23; refine ai [0, 1, 2, 4, 5, 6, 7, 8, 9, 10, 11, 12, 13, 14, 22, 33, 80] ?_; simp only [ad, lkp, zE, reduceCtorEq, J, ae, E]
    refine aU ?_
    refine ⟨by first | exact .inl rfl | exact .inr rfl, _, rfl, ?_⟩; simp only [fzV, fz1, fzC, List.map_cons, List.map_nil, ad, lkp, zE, reduceCtorEq, J, ae, E, Mly.av]
    unfold wU wV eg
    first
    | (rw [if_neg ‹¬bE m cl = 0›, if_neg ‹¬bE m cl = 0›, if_neg ‹¬bE m cl = 0›]; exact br ⟨aB (aQ rfl), aB (aQ rfl), aB (.refl _), aB (.refl _), trivial⟩)
    | (rw [if_pos ‹bE m cl = 0›, if_pos ‹bE m cl = 0›, if_pos ‹bE m cl = 0›, ‹bE m cl = 0›, hfn]; exact br ⟨aB (aQ rfl), aB (aQ rfl), aB (.refl _), aB (.refl _), trivial⟩)
    | (rw [if_pos ‹bE m cl = 0›, if_pos ‹bE m cl = 0›, if_pos ‹bE m cl = 0›, ‹bE m cl = 0›, hfs]
       have hO : m.out (m.exR.getD p.1 eX0).1 p.2.1 = m.out (m.exR.getD p.1 eX0).1 p.2.2 := by assumption
       have hT : wTl m p = _ := if_pos hO
       dsimp only; rw [hT]; refine VLE.of_eq ?_; simp [Mly.nxt, List.append_assoc])
    | (rw [if_pos ‹bE m cl = 0›, if_pos ‹bE m cl = 0›, if_pos ‹bE m cl = 0›, ‹bE m cl = 0›, hfs]
       have hO : ¬ m.out (m.exR.getD p.1 eX0).1 p.2.1 = m.out (m.exR.getD p.1 eX0).1 p.2.2 := by assumption
       have hT : wTl m p = _ := if_neg hO
       dsimp only; rw [hT]; refine VLE.of_eq ?_; simp [Mly.nxt, List.append_assoc])
end Go.Proofs.YtceafldjjedhcaaDoor
namespace Go.Proofs.YtceafldjjedhcaaDoor
open Go Go.AV
open Nat renaming reduceEqDiff → J, reduceAdd → E, reduceLeDiff → U, reduceLT → Z, reduceMul → V, reduceSub → Y
open List renaming set_cons_zero → aw, set_cons_succ → au
theorem xv : cq Tryd.prog 6 [d9.av, .one (.list (.int .i64) [0, 0])] (.tup [.one (.list (.int .i64) [0]), .one (.list (.int .i64) [1]), .one (.bool true), .one (.int .i64 0)]) := by
  have h := rL d9 [0, 0]
  rw [show wU d9 [0, 0] = [0] by decide +kernel, show wV d9 [0, 0] = [1] by decide +kernel, show eg d9 [0, 0] = true by decide +kernel, show bE d9 [0, 0] = 0 by decide +kernel] at h
  exact h

end Go.Proofs.YtceafldjjedhcaaDoor
namespace Go.Proofs.YtceafldjjedhcaaDoor
open Go Go.AV
open Nat renaming reduceEqDiff → J, reduceAdd → E, reduceLeDiff → U, reduceLT → Z, reduceMul → V, reduceSub → Y
open List renaming set_cons_zero → aw, set_cons_succ → au
def nh : Mly := ⟨3, 0, [[1, 0, 0], [1, 0, 1]], [[1, 0, 1], [1, 2, 1]]⟩
end Go.Proofs.YtceafldjjedhcaaDoor
namespace Go.Proofs.YtceafldjjedhcaaDoor
open Go Go.AV
open Nat renaming reduceEqDiff → J, reduceAdd → E, reduceLeDiff → U, reduceLT → Z, reduceMul → V, reduceSub → Y
open List renaming set_cons_zero → aw, set_cons_succ → au
theorem xx : cq Tryd.prog 6 [.agg [.int .i64 3, .int .i64 0, .list (.list (.int .i64)) [[1, 0, 0], [1, 0, 1]], .list (.list (.int .i64)) [[1, 0, 1], [1, 2, 1]]], .one (.list (.int .i64) [0, 1, 0])] (.tup [.one (.list (.int .i64) [0, 1]), .one (.list (.int .i64) [2, 1]), .one (.bool true), .one (.int .i64 0)]) := by
  have h := rL nh [0, 1, 0]
  rw [show wU nh [0, 1, 0] = [0, 1] by decide +kernel, show wV nh [0, 1, 0] = [2, 1] by decide +kernel, show eg nh [0, 1, 0] = true by decide +kernel, show bE nh [0, 1, 0] = 0 by decide +kernel] at h
  exact h

end Go.Proofs.YtceafldjjedhcaaDoor
namespace Go.Proofs.YtceafldjjedhcaaDoor
open Go Go.AV
open Nat renaming reduceEqDiff → J, reduceAdd → E, reduceLeDiff → U, reduceLT → Z, reduceMul → V, reduceSub → Y
open List renaming set_cons_zero → aw, set_cons_succ → au
set_option maxRecDepth 100000 in
theorem iS  : cq Tryd.prog 9 [] (d9.av) := by
 refine bt Tryd.func9 rfl (by kernel_rfl) (Nat.le_of_ble_eq_true rfl) rfl fun C hP hN hB => ?_
 replace hN : C.N = 8 := hN
 simp only [ae, E]
 refine ah fun K1 hK1 => ?_
 refine ao hP hN rfl ?_
 (refine ag rfl fun K0 aa => ?_; simp only [zE, op1, ev, lkp, am, ak, cC, reduceCtorEq, J, E, U, Z, V, Y, Tryd.st24, Tryd.td24, Mly.av, d9]; (repeat refine And.intro (by first | omega | assumption | exact rfl) ?_); (first | refine aa _ ?_ | refine Or.inl (aa _ ?_)); clear aa K0; simp only [put, app, af, aj, zE, zS, E])
 refine aq ?_
 refine hK1 _ ?_; clear hK1; refine ai [0] ?_; simp only [ad, lkp, zE, reduceCtorEq, J, ae, E]
 refine ah fun K2 hK2 => ?_
 refine ao hP hN rfl ?_
 iterate 8 (refine ag rfl fun K0 aa => ?_; simp only [zE, op1, ev, lkp, am, ak, b0, bl, c8, rep, aM, aR, ax, Ty.size, cF, bJ, Nat.mul_one, acs, Ty.dflt, zG, reduceCtorEq, J, E, U, Z, V, Y, Tryd.el22, Tryd.el25, Tryd.st24, Tryd.td2, Tryd.td22, Tryd.td24, Tryd.td25, Mly.av, d9]; (repeat refine And.intro (by first | omega | assumption | exact rfl) ?_); (first | refine aa _ ?_ | refine Or.inl (aa _ ?_)); clear aa K0; simp only [put, app, af, aj, zE, zS, E])
 refine aq ?_
 refine hK2 _ ?_; clear hK2; refine ai [0] ?_; simp only [ad, lkp, zE, reduceCtorEq, J, ae, E]
 refine aU ?_
 refine ⟨by first | exact .inl rfl | exact .inr rfl, _, rfl, ?_⟩; simp only [fzV, fz1, fzC, List.map_cons, List.map_nil, ad, lkp, zE, reduceCtorEq, J, ae, E, Mly.av, d9]
 refine VLE.of_eq ?_
 rfl
end Go.Proofs.YtceafldjjedhcaaDoor
namespace Go.Proofs.YtceafldjjedhcaaDoor
open Go Go.AV
open Nat renaming reduceEqDiff → J, reduceAdd → E, reduceLeDiff → U, reduceLT → Z, reduceMul → V, reduceSub → Y
open List renaming set_cons_zero → aw, set_cons_succ → au
set_option maxRecDepth 100000 in
theorem hJ (xs ys : List Int) : cq Tryd.prog 12 [.one (.list (.int .i64) xs), .one (.list (.int .i64) ys)] (.one (.bool (decide (xs = ys)))) := by
 refine bt Tryd.func12 rfl (by kernel_rfl) (Nat.le_of_ble_eq_true rfl) rfl fun C hP hN hB => ?_
 replace hN : C.N = 26 := hN
 simp only [ae, E]
 refine jD 0 rfl fun hf0 => ?_; simp only [lkp, if_true, if_false, reduceCtorEq, J, eq_self, Nat.one_ne_zero, Nat.zero_ne_one, nZ, lP, mw, Fit, and_true, implies_true, true_and] at hf0
 refine ah fun K1 hK1 => ?_
 refine ao hP hN rfl ?_
 (refine ag rfl fun K0 aa => ?_; simp only [zE, op1, ev, lkp, am, ak, ev, reduceCtorEq, J, E, U, Z, V, Y, Tryd.td4]; refine aa _ ?_; clear aa K0; simp only [put, app, af, aj, zE, zS, E])
 refine aq ?_
 refine hK1 _ ?_; clear hK1; refine ai [0, 1, 4] ?_; simp only [ad, lkp, zE, reduceCtorEq, J, ae, E]
 refine ah fun K2 hK2 => ?_
 refine ah fun K3 hK3 => ?_
 refine ao hP hN rfl ?_
 iterate 5 (refine ag rfl fun K0 aa => ?_; simp only [zE, op1, ev, lkp, am, ak, aP, bT, bC, bu, bv, bP, Nat.div_one, aV, bz, Ty.size, aM, dite_true, aJ, aK, aI, ay, aH, aX, reduceCtorEq, J, E, U, Z, V, Y, Tryd.el25, Tryd.td25, Tryd.td3, Tryd.td4]; (repeat refine And.intro (by first | omega | assumption | exact rfl) ?_); (first | refine aa _ ?_ | refine Or.inl (aa _ ?_)); clear aa K0; simp only [put, app, af, aj, zE, zS, E])
 refine aq ?_
 refine hK3 _ ?_; clear hK3; refine ai [0, 1, 4, 10] ?_; simp only [ad, lkp, zE, reduceCtorEq, J, ae, E]
 refine aL (by simp only [ev, ad, lkp, zE, reduceCtorEq, J, ae, E]; exact rfl) (fun hc4 => ?_) (fun hc4 => ?_)
 ·(try simp only [zB, reduceCtorEq] at hc4)
  refine ah fun K5 hK5 => ?_
  refine ao hP hN rfl ?_
  (refine ag rfl fun K0 aa => ?_; simp only [zE, op1, ev, lkp, am, ak, ev, reduceCtorEq, J, E, U, Z, V, Y, Tryd.td4]; refine aa _ ?_; clear aa K0; simp only [put, app, af, aj, zE, zS, E])
  refine aq ?_
  refine hK5 _ ?_; clear hK5; refine ai [0, 1, 4, 10] ?_; simp only [ad, lkp, zE, reduceCtorEq, J, ae, E]
  refine aU ?_
  refine ⟨by first | exact .inl rfl | exact .inr rfl, _, rfl, ?_⟩; simp only [fzV, fz1, fzC, List.map_cons, List.map_nil, ad, lkp, zE, reduceCtorEq, J, ae, E]
  refine VLE.of_eq ?_
  first
  | (refine ir ?_; rintro rfl; first | exact absurd rfl ‹¬ _› | omega)
  | (refine jc ?_; have hk1 : k = xs.length := by omega
     have hk2 : k = ys.length := by omega
     rw [hk1, List.take_length, ← hk1, hk2, List.take_length] at hT; exact hT)
 ·(try simp only [zB, reduceCtorEq] at hc4)
  refine aT ?_
  refine hK2 _ ?_; clear hK2; refine ai [0, 1, 4, 10] ?_; simp only [ad, lkp, zE, reduceCtorEq, J, ae, E]
  refine ah fun K6 hK6 => ?_
  refine ah fun K7 hK7 => ?_
  refine ao hP hN rfl ?_
  (refine ag rfl fun K0 aa => ?_; simp only [zE, op1, ev, lkp, am, ak, ev, reduceCtorEq, J, E, U, Z, V, Y, Tryd.td3]; refine aa _ ?_; clear aa K0; simp only [put, app, af, aj, zE, zS, E])
  refine aq ?_
  refine hK7 _ ?_; clear hK7; refine ai [0, 1, 4, 5, 10] ?_; simp only [ad, lkp, zE, reduceCtorEq, J, ae, E]
  refine b8 ?_
  refine cj (fun n8 s8 => ∃ (k : Nat), (k ≤ xs.length) ∧ (xs.take k = ys.take k) ∧ n8 = xs.length - k ∧ s8 = { env := [(0, .one (.list (.int .i64) xs)), (1, .one (.list (.int .i64) ys)), (5, .one (.int .i64 (k : Int)))], L := [] }) ?_ ?_
  ·exact ⟨_, _, aY [0, 1, 5], 0, Nat.zero_le _, rfl, rfl, rfl⟩
  ·rintro n8 s8 ⟨k, hk, hT, rfl, rfl⟩
   refine ah fun K9 hK9 => ?_
   refine ah fun K10 hK10 => ?_
   refine ao hP hN rfl ?_
   iterate 4 (refine ag rfl fun K0 aa => ?_; simp only [zE, op1, ev, lkp, am, ak, aP, bT, bC, bu, bv, bP, Nat.div_one, aV, bz, Ty.size, aM, dite_true, aJ, aK, aI, ay, aH, aX, reduceCtorEq, J, E, U, Z, V, Y, Tryd.el25, Tryd.td25, Tryd.td3, Tryd.td4]; (repeat refine And.intro (by first | omega | assumption | exact rfl) ?_); (first | refine aa _ ?_ | refine Or.inl (aa _ ?_)); clear aa K0; simp only [put, app, af, aj, zE, zS, E])
   refine aq ?_
   refine hK10 _ ?_; clear hK10; refine ai [0, 1, 5, 14] ?_; simp only [ad, lkp, zE, reduceCtorEq, J, ae, E]
   refine aL (by simp only [ev, ad, lkp, zE, reduceCtorEq, J, ae, E]; exact rfl) (fun hc11 => ?_) (fun hc11 => ?_)
   ·(try simp only [zB, reduceCtorEq] at hc11)
    refine aT ?_
    refine hK9 _ ?_; clear hK9; refine ai [0, 1, 5, 14] ?_; simp only [ad, lkp, zE, reduceCtorEq, J, ae, E]
    refine ah fun K12 hK12 => ?_
    refine b8 ?_
    refine ah fun K13 hK13 => ?_
    refine cB hP hN Tryd.mixed rfl ?_
    iterate 9 (refine ag rfl fun K0 aa => ?_; simp only [zE, op1, ev, lkp, am, ak, aS, zG, Ty.dflt, Ty.size, Nat.mul_one, ne_eq, not_false_eq_true, Int.natCast_one, Int.mul_one, aE, aC, aD, acs, az, aJ, aK, aI, ay, aH, aX, reduceCtorEq, J, E, U, Z, V, Y, Tryd.el25, Tryd.td25, Tryd.td3, Tryd.td4]; (repeat refine And.intro (by first | omega | assumption | exact rfl) ?_); refine aa _ ?_; clear aa K0; simp only [put, app, af, aj, zE, zS, E])
    refine aq ?_
    refine ⟨by kernel_rfl, ?_⟩
    refine hK13 _ ?_; clear hK13; refine ai [0, 1, 5, 14, 25] ?_; simp only [ad, lkp, zE, reduceCtorEq, J, ae, E]
    refine aL (by simp only [ev, ad, lkp, zE, reduceCtorEq, J, ae, E]; exact rfl) (fun hc14 => ?_) (fun hc14 => ?_)
    ·(try simp only [zB, reduceCtorEq] at hc14)
     refine ah fun K15 hK15 => ?_
     refine ao hP hN rfl ?_
     (refine ag rfl fun K0 aa => ?_; simp only [zE, op1, ev, lkp, am, ak, ev, reduceCtorEq, J, E, U, Z, V, Y, Tryd.td4]; refine aa _ ?_; clear aa K0; simp only [put, app, af, aj, zE, zS, E])
     refine aq ?_
     refine hK15 _ ?_; clear hK15; refine ai [0, 1, 4, 5, 14, 25] ?_; simp only [ad, lkp, zE, reduceCtorEq, J, ae, E]
     refine aU ?_
     refine ⟨by first | exact .inl rfl | exact .inr rfl, _, rfl, ?_⟩; simp only [fzV, fz1, fzC, List.map_cons, List.map_nil, ad, lkp, zE, reduceCtorEq, J, ae, E]
     refine VLE.of_eq ?_
     first
     | (refine ir ?_; rintro rfl; first | exact absurd rfl ‹¬ _› | omega)
     | (refine jc ?_; have hk1 : k = xs.length := by omega
        have hk2 : k = ys.length := by omega
        rw [hk1, List.take_length, ← hk1, hk2, List.take_length] at hT; exact hT)
    ·(try simp only [zB, reduceCtorEq] at hc14)
     refine aT ?_
     refine hK12 _ ?_; clear hK12; refine ai [0, 1, 5, 14, 25] ?_; simp only [ad, lkp, zE, reduceCtorEq, J, ae, E]
     refine ao hP hN rfl ?_
     iterate 3 (refine ag rfl fun K0 aa => ?_; simp only [zE, op1, ev, lkp, am, ak, aJ, aK, aI, ay, aH, aX, reduceCtorEq, J, E, U, Z, V, Y, Tryd.td3]; (repeat refine And.intro (by first | omega | assumption | exact rfl) ?_); refine aa _ ?_; clear aa K0; simp only [put, app, af, aj, zE, zS, E])
     refine aq ?_
     refine ⟨_, _, ?_, aY [0, 1, 5], k + 1, by omega, nB (d := 0) hT (by omega) (by omega) ?_, rfl, rfl⟩
     · omega
     · first | assumption | omega
   ·(try simp only [zB, reduceCtorEq] at hc11)
    refine cm ?_
    refine hK6 _ ?_; clear hK6; refine ai [0, 1, 5, 14] ?_; simp only [ad, lkp, zE, reduceCtorEq, J, ae, E]
    refine ah fun K16 hK16 => ?_
    refine ao hP hN rfl ?_
    (refine ag rfl fun K0 aa => ?_; simp only [zE, op1, ev, lkp, am, ak, ev, reduceCtorEq, J, E, U, Z, V, Y, Tryd.td4]; refine aa _ ?_; clear aa K0; simp only [put, app, af, aj, zE, zS, E])
    refine aq ?_
    refine hK16 _ ?_; clear hK16; refine ai [0, 1, 4, 5, 14] ?_; simp only [ad, lkp, zE, reduceCtorEq, J, ae, E]
    refine aU ?_
    refine ⟨by first | exact .inl rfl | exact .inr rfl, _, rfl, ?_⟩; simp only [fzV, fz1, fzC, List.map_cons, List.map_nil, ad, lkp, zE, reduceCtorEq, J, ae, E]
    refine VLE.of_eq ?_
    first
    | (refine ir ?_; rintro rfl; first | exact absurd rfl ‹¬ _› | omega)
    | (refine jc ?_; have hk1 : k = xs.length := by omega
       have hk2 : k = ys.length := by omega
       rw [hk1, List.take_length, ← hk1, hk2, List.take_length] at hT; exact hT)
end Go.Proofs.YtceafldjjedhcaaDoor
namespace Go.Proofs.YtceafldjjedhcaaDoor
open Go Go.AV
open Nat renaming reduceEqDiff → J, reduceAdd → E, reduceLeDiff → U, reduceLT → Z, reduceMul → V, reduceSub → Y
open List renaming set_cons_zero → aw, set_cons_succ → au
set_option maxRecDepth 100000 in
theorem jg  : cq Tryd.prog 5 [] (.one (.bool true)) := by
 refine bt Tryd.func5 rfl (by kernel_rfl) (Nat.le_of_ble_eq_true rfl) rfl fun C hP hN hB => ?_
 replace hN : C.N = 132 := hN
 simp only [ae, E]
 refine ah fun K1 hK1 => ?_
 refine ao hP hN rfl ?_
 (refine ag rfl fun K0 aa => ?_; simp only [zE, op1, ev, lkp, am, ak, ev, reduceCtorEq, J, E, U, Z, V, Y, Tryd.td4, Mly.av]; refine aa _ ?_; clear aa K0; simp only [put, app, af, aj, zE, zS, E])
 refine aq ?_
 refine hK1 _ ?_; clear hK1; refine ai [0] ?_; simp only [ad, lkp, zE, reduceCtorEq, J, ae, E]
 refine ah fun K2 hK2 => ?_
 refine ao hP hN rfl ?_
 refine ag rfl fun K0 aa => ?_
 refine aW (h := aF iS) rfl rfl (by first | exact rfl | (simp only [ev, ad, lkp, zE, reduceCtorEq, J, ae, E]; exact rfl)) (by simp only [zE, zG, op1, ev, lkp, am, ak, ax, acs, bf, mv1, mvC, Ty.dflt, reduceCtorEq, J, E, U, Z, V, Y, Mly.av]) ?_
 refine aa _ ?_; clear aa K0; simp only [put, app, af, aj, zE, zS, E]
 (refine ag rfl fun K0 aa => ?_; simp only [zE, op1, ev, lkp, am, ak, b0, bl, c8, rep, aM, aR, ax, Ty.size, reduceCtorEq, J, E, U, Z, V, Y, Tryd.el25, Tryd.td2, Tryd.td25, Mly.av]; (repeat refine And.intro (by first | omega | assumption | exact rfl) ?_); (first | refine aa _ ?_ | refine Or.inl (aa _ ?_)); clear aa K0; simp only [put, app, af, aj, zE, zS, E])
 refine ag rfl fun K0 aa => ?_
 refine aW (h := aF xv) rfl rfl (by first | exact rfl | (simp only [ev, ad, lkp, zE, reduceCtorEq, J, ae, E]; exact rfl)) (by simp only [zE, zG, op1, ev, lkp, am, ak, ax, acs, bf, mv1, mvC, Ty.dflt, reduceCtorEq, J, E, U, Z, V, Y, Mly.av]) ?_
 refine aa _ ?_; clear aa K0; simp only [put, app, af, aj, zE, zS, E]
 iterate 9 (refine ag rfl fun K0 aa => ?_; simp only [zE, op1, ev, lkp, am, ak, bS, reduceCtorEq, J, E, U, Z, V, Y, Tryd.el25, Tryd.td1, Tryd.td2, Tryd.td25, Tryd.td28, Tryd.td3, Tryd.td4, Mly.av]; refine aa _ ?_; clear aa K0; simp only [put, app, af, aj, zE, zS, E])
 refine aq ?_
 refine hK2 _ ?_; clear hK2; refine ai [0, 1, 2, 3, 4] ?_; simp only [ad, lkp, zE, reduceCtorEq, J, ae, E]
 refine ah fun K3 hK3 => ?_
 refine ao hP hN rfl ?_
 refine ag rfl fun K0 aa => ?_
 refine aW (h := aF iS) rfl rfl (by first | exact rfl | (simp only [ev, ad, lkp, zE, reduceCtorEq, J, ae, E]; exact rfl)) (by simp only [zE, zG, op1, ev, lkp, am, ak, ax, acs, bf, mv1, mvC, Ty.dflt, reduceCtorEq, J, E, U, Z, V, Y, Mly.av]) ?_
 refine aa _ ?_; clear aa K0; simp only [put, app, af, aj, zE, zS, E]
 (refine ag rfl fun K0 aa => ?_; simp only [zE, op1, ev, lkp, am, ak, b0, bl, c8, rep, aM, aR, ax, Ty.size, reduceCtorEq, J, E, U, Z, V, Y, Tryd.el25, Tryd.td2, Tryd.td25, Mly.av]; (repeat refine And.intro (by first | omega | assumption | exact rfl) ?_); (first | refine aa _ ?_ | refine Or.inl (aa _ ?_)); clear aa K0; simp only [put, app, af, aj, zE, zS, E])
 refine ag rfl fun K0 aa => ?_
 refine aW (h := aF xp) rfl rfl (by first | exact rfl | (simp only [ev, ad, lkp, zE, reduceCtorEq, J, ae, E]; exact rfl)) (by simp only [zE, zG, op1, ev, lkp, am, ak, ax, acs, bf, mv1, mvC, Ty.dflt, reduceCtorEq, J, E, U, Z, V, Y, Mly.av]) ?_
 refine aa _ ?_; clear aa K0; simp only [put, app, af, aj, zE, zS, E]
 iterate 7 (refine ag rfl fun K0 aa => ?_; simp only [zE, op1, ev, lkp, am, ak, bS, reduceCtorEq, J, E, U, Z, V, Y, Tryd.el25, Tryd.td1, Tryd.td2, Tryd.td25, Tryd.td28, Tryd.td4, Mly.av]; refine aa _ ?_; clear aa K0; simp only [put, app, af, aj, zE, zS, E])
 refine aq ?_
 refine hK3 _ ?_; clear hK3; refine ai [0, 1, 2, 3, 4, 5, 6, 7] ?_; simp only [ad, lkp, zE, reduceCtorEq, J, ae, E]
 refine ah fun K4 hK4 => ?_
 refine ao hP hN rfl ?_
 refine ag rfl fun K0 aa => ?_
 refine aW (h := aF iS) rfl rfl (by first | exact rfl | (simp only [ev, ad, lkp, zE, reduceCtorEq, J, ae, E]; exact rfl)) (by simp only [zE, zG, op1, ev, lkp, am, ak, ax, acs, bf, mv1, mvC, Ty.dflt, reduceCtorEq, J, E, U, Z, V, Y, Mly.av]) ?_
 refine aa _ ?_; clear aa K0; simp only [put, app, af, aj, zE, zS, E]
 (refine ag rfl fun K0 aa => ?_; simp only [zE, op1, ev, lkp, am, ak, b0, bl, c8, rep, aM, aR, ax, Ty.size, reduceCtorEq, J, E, U, Z, V, Y, Tryd.el25, Tryd.td2, Tryd.td25, Mly.av]; (repeat refine And.intro (by first | omega | assumption | exact rfl) ?_); (first | refine aa _ ?_ | refine Or.inl (aa _ ?_)); clear aa K0; simp only [put, app, af, aj, zE, zS, E])
 refine ag rfl fun K0 aa => ?_
 refine aW (h := aF xt) rfl rfl (by first | exact rfl | (simp only [ev, ad, lkp, zE, reduceCtorEq, J, ae, E]; exact rfl)) (by simp only [zE, zG, op1, ev, lkp, am, ak, ax, acs, bf, mv1, mvC, Ty.dflt, reduceCtorEq, J, E, U, Z, V, Y, Mly.av]) ?_
 refine aa _ ?_; clear aa K0; simp only [put, app, af, aj, zE, zS, E]
 iterate 7 (refine ag rfl fun K0 aa => ?_; simp only [zE, op1, ev, lkp, am, ak, bS, reduceCtorEq, J, E, U, Z, V, Y, Tryd.el25, Tryd.td1, Tryd.td2, Tryd.td25, Tryd.td28, Tryd.td4, Mly.av]; refine aa _ ?_; clear aa K0; simp only [put, app, af, aj, zE, zS, E])
 refine aq ?_
 refine hK4 _ ?_; clear hK4; refine ai [0, 1, 2, 3, 4, 5, 6, 7, 8, 9, 10] ?_; simp only [ad, lkp, zE, reduceCtorEq, J, ae, E]
 refine ah fun K5 hK5 => ?_
 refine ao hP hN rfl ?_
 refine ag rfl fun K0 aa => ?_
 refine aW (h := aF iS) rfl rfl (by first | exact rfl | (simp only [ev, ad, lkp, zE, reduceCtorEq, J, ae, E]; exact rfl)) (by simp only [zE, zG, op1, ev, lkp, am, ak, ax, acs, bf, mv1, mvC, Ty.dflt, reduceCtorEq, J, E, U, Z, V, Y, Mly.av]) ?_
 refine aa _ ?_; clear aa K0; simp only [put, app, af, aj, zE, zS, E]
 refine ag rfl fun K0 aa => ?_
 refine aW (h := aF xA) rfl rfl (by first | exact rfl | (simp only [ev, ad, lkp, zE, reduceCtorEq, J, ae, E]; exact rfl)) (by simp only [zE, zG, op1, ev, lkp, am, ak, ax, acs, bf, mv1, mvC, Ty.dflt, reduceCtorEq, J, E, U, Z, V, Y, Mly.av]) ?_
 refine aa _ ?_; clear aa K0; simp only [put, app, af, aj, zE, zS, E]
 iterate 7 (refine ag rfl fun K0 aa => ?_; simp only [zE, op1, ev, lkp, am, ak, bS, reduceCtorEq, J, E, U, Z, V, Y, Tryd.el25, Tryd.td1, Tryd.td2, Tryd.td25, Tryd.td28, Tryd.td3, Mly.av]; refine aa _ ?_; clear aa K0; simp only [put, app, af, aj, zE, zS, E])
 refine aq ?_
 refine hK5 _ ?_; clear hK5; refine ai [0, 1, 2, 3, 4, 5, 6, 7, 8, 9, 10, 11, 12, 13] ?_; simp only [ad, lkp, zE, reduceCtorEq, J, ae, E]
 refine ah fun K6 hK6 => ?_
 refine ao hP hN rfl ?_
 iterate 9 (refine ag rfl fun K0 aa => ?_; simp only [zE, op1, ev, lkp, am, ak, b0, bl, c8, rep, aM, aR, ax, Ty.size, cF, cC, bJ, Nat.mul_one, acs, Ty.dflt, zG, reduceCtorEq, J, E, U, Z, V, Y, Tryd.el22, Tryd.el25, Tryd.st24, Tryd.td2, Tryd.td22, Tryd.td24, Tryd.td25, Tryd.td3, Mly.av]; (repeat refine And.intro (by first | omega | assumption | exact rfl) ?_); (first | refine aa _ ?_ | refine Or.inl (aa _ ?_)); clear aa K0; simp only [put, app, af, aj, zE, zS, E])
 refine aq ?_
 refine hK6 _ ?_; clear hK6; refine ai [0, 1, 2, 3, 4, 5, 6, 7, 8, 9, 10, 11, 12, 13, 14] ?_; simp only [ad, lkp, zE, reduceCtorEq, J, ae, E]
 refine ah fun K7 hK7 => ?_
 refine ao hP hN rfl ?_
 iterate 2 (refine ag rfl fun K0 aa => ?_; simp only [zE, op1, ev, lkp, am, ak, aE, Nat.mul_one, aC, aD, acs, Ty.dflt, zG, az, b0, bl, c8, rep, aM, aR, ax, Ty.size, reduceCtorEq, J, E, U, Z, V, Y, Tryd.el25, Tryd.st24, Tryd.td24, Tryd.td25, Tryd.td3, Mly.av]; (repeat refine And.intro (by first | omega | assumption | exact rfl) ?_); (first | refine aa _ ?_ | refine Or.inl (aa _ ?_)); clear aa K0; simp only [put, app, af, aj, zE, zS, E])
 refine ag rfl fun K0 aa => ?_
 refine aW (h := aF xx) rfl rfl (by first | exact rfl | (simp only [ev, ad, lkp, zE, reduceCtorEq, J, ae, E]; exact rfl)) (by simp only [zE, zG, op1, ev, lkp, am, ak, ax, acs, bf, mv1, mvC, Ty.dflt, reduceCtorEq, J, E, U, Z, V, Y, Mly.av]) ?_
 refine aa _ ?_; clear aa K0; simp only [put, app, af, aj, zE, zS, E]
 iterate 9 (refine ag rfl fun K0 aa => ?_; simp only [zE, op1, ev, lkp, am, ak, bS, reduceCtorEq, J, E, U, Z, V, Y, Tryd.el25, Tryd.td1, Tryd.td2, Tryd.td25, Tryd.td28, Tryd.td3, Tryd.td4, Mly.av]; refine aa _ ?_; clear aa K0; simp only [put, app, af, aj, zE, zS, E])
 refine aq ?_
 refine hK7 _ ?_; clear hK7; refine ai [0, 1, 2, 3, 4, 5, 6, 7, 8, 9, 10, 11, 12, 13, 14, 15, 16, 17, 18] ?_; simp only [ad, lkp, zE, reduceCtorEq, J, ae, E]
 refine ah fun K8 hK8 => ?_
 refine ah fun K9 hK9 => ?_
 refine ao hP hN rfl ?_
 iterate 2 (refine ag rfl fun K0 aa => ?_; simp only [zE, op1, ev, lkp, am, ak, aJ, aK, aI, ay, aH, aX, reduceCtorEq, J, E, U, Z, V, Y, Tryd.td28, Tryd.td4, Mly.av]; (repeat refine And.intro (by first | omega | assumption | exact rfl) ?_); refine aa _ ?_; clear aa K0; simp only [put, app, af, aj, zE, zS, E])
 (refine ag rfl fun K0 aa => ?_; simp only [zE, op1, ev, lkp, am, ak, ev, reduceCtorEq, J, E, U, Z, V, Y, Tryd.td4, Mly.av]; refine aa _ ?_; clear aa K0; simp only [put, app, af, aj, zE, zS, E])
 refine' bn (want := false) 2 rfl (m := 64) (by simp only [ad, lkp, zE, reduceCtorEq, J, ae, E]; exact rfl) (by kernel_rfl) rfl rfl rfl rfl rfl (fun hg10 => ?a10) ?b10 ?c10
 case a10 =>
  have hq10 := hg10; (try simp only [zB, reduceCtorEq] at hg10); simp only [List.take_succ_cons, List.take_zero, List.cons_append, List.nil_append]
  (refine aG rfl fun K0 aa => ?_; simp only [zE, op1, ev, lkp, am, ak, ev, reduceCtorEq, J, E, U, Z, V, Y, Tryd.td28, Mly.av]; refine aa _ ?_; clear aa K0; simp only [put, app, af, aj, zE, zS, E])
  (refine aG rfl fun K0 aa => ?_; simp only [zE, op1, ev, lkp, am, ak, aJ, aK, aI, ay, aH, aX, reduceCtorEq, J, E, U, Z, V, Y, Tryd.td28, Tryd.td4, Mly.av]; (repeat refine And.intro (by first | omega | assumption | exact rfl) ?_); refine aa _ ?_; clear aa K0; simp only [put, app, af, aj, zE, zS, E])
  (refine ag rfl fun K0 aa => ?_; simp only [zE, op1, ev, lkp, am, ak, bU, reduceCtorEq, J, E, U, Z, V, Y, Tryd.td4, Mly.av]; refine aa _ ?_; clear aa K0; simp only [put, app, af, aj, zE, zS, E])
  refine aq ?_
  refine ⟨by simp only [ad, lkp, zE, reduceCtorEq, J, ae, E]; exact rfl, rfl, ?_, rfl⟩; (repeat refine bo rfl ?_); exact bY (by exact rfl) hq10
 case b10 => exact bV (by first | rfl | (simp [cD]; done) | decide)
 simp only [bM, bB]
 (refine ag rfl fun K0 aa => ?_; simp only [zE, op1, ev, lkp, am, ak, ev, reduceCtorEq, J, E, U, Z, V, Y, Tryd.td4, Mly.av]; refine aa _ ?_; clear aa K0; simp only [put, app, af, aj, zE, zS, E])
 refine' bn (want := false) 2 rfl (m := 68) (by simp only [ad, lkp, zE, reduceCtorEq, J, ae, E]; exact rfl) (by kernel_rfl) rfl rfl rfl rfl rfl (fun hg11 => ?a11) ?b11 ?c11
 case a11 =>
  have hq11 := hg11; (try simp only [zB, reduceCtorEq] at hg11); simp only [List.take_succ_cons, List.take_zero, List.cons_append, List.nil_append]
  (refine aG rfl fun K0 aa => ?_; simp only [zE, op1, ev, lkp, am, ak, ev, reduceCtorEq, J, E, U, Z, V, Y, Tryd.td28, Mly.av]; refine aa _ ?_; clear aa K0; simp only [put, app, af, aj, zE, zS, E])
  (refine aG rfl fun K0 aa => ?_; simp only [zE, op1, ev, lkp, am, ak, aJ, aK, aI, ay, aH, aX, reduceCtorEq, J, E, U, Z, V, Y, Tryd.td28, Tryd.td4, Mly.av]; (repeat refine And.intro (by first | omega | assumption | exact rfl) ?_); refine aa _ ?_; clear aa K0; simp only [put, app, af, aj, zE, zS, E])
  (refine ag rfl fun K0 aa => ?_; simp only [zE, op1, ev, lkp, am, ak, bU, reduceCtorEq, J, E, U, Z, V, Y, Tryd.td4, Mly.av]; refine aa _ ?_; clear aa K0; simp only [put, app, af, aj, zE, zS, E])
  refine aq ?_
  refine ⟨by simp only [ad, lkp, zE, reduceCtorEq, J, ae, E]; exact rfl, rfl, ?_, rfl⟩; (repeat refine bo rfl ?_); exact bY (by exact rfl) hq11
 case b11 => exact bV (by first | rfl | (simp [cD]; done) | decide)
 simp only [bM, bB]
 (refine ag rfl fun K0 aa => ?_; simp only [zE, op1, ev, lkp, am, ak, ev, reduceCtorEq, J, E, U, Z, V, Y, Tryd.td4, Mly.av]; refine aa _ ?_; clear aa K0; simp only [put, app, af, aj, zE, zS, E])
 refine' bn (want := false) 2 rfl (m := 72) (by simp only [ad, lkp, zE, reduceCtorEq, J, ae, E]; exact rfl) (by kernel_rfl) rfl rfl rfl rfl rfl (fun hg12 => ?a12) ?b12 ?c12
 case a12 =>
  have hq12 := hg12; (try simp only [zB, reduceCtorEq] at hg12); simp only [List.take_succ_cons, List.take_zero, List.cons_append, List.nil_append]
  (refine aG rfl fun K0 aa => ?_; simp only [zE, op1, ev, lkp, am, ak, ev, reduceCtorEq, J, E, U, Z, V, Y, Tryd.td28, Mly.av]; refine aa _ ?_; clear aa K0; simp only [put, app, af, aj, zE, zS, E])
  (refine aG rfl fun K0 aa => ?_; simp only [zE, op1, ev, lkp, am, ak, aJ, aK, aI, ay, aH, aX, reduceCtorEq, J, E, U, Z, V, Y, Tryd.td28, Tryd.td4, Mly.av]; (repeat refine And.intro (by first | omega | assumption | exact rfl) ?_); refine aa _ ?_; clear aa K0; simp only [put, app, af, aj, zE, zS, E])
  (refine ag rfl fun K0 aa => ?_; simp only [zE, op1, ev, lkp, am, ak, bU, reduceCtorEq, J, E, U, Z, V, Y, Tryd.td4, Mly.av]; refine aa _ ?_; clear aa K0; simp only [put, app, af, aj, zE, zS, E])
  refine aq ?_
  refine ⟨by simp only [ad, lkp, zE, reduceCtorEq, J, ae, E]; exact rfl, rfl, ?_, rfl⟩; (repeat refine bo rfl ?_); exact bY (by exact rfl) hq12
 case b12 => exact bV (by first | rfl | (simp [cD]; done) | decide)
 simp only [bM, bB]
 (refine ag rfl fun K0 aa => ?_; simp only [zE, op1, ev, lkp, am, ak, ev, reduceCtorEq, J, E, U, Z, V, Y, Tryd.td4, Mly.av]; refine aa _ ?_; clear aa K0; simp only [put, app, af, aj, zE, zS, E])
 refine' bn (want := false) 2 rfl (m := 76) (by simp only [ad, lkp, zE, reduceCtorEq, J, ae, E]; exact rfl) (by kernel_rfl) rfl rfl rfl rfl rfl (fun hg13 => ?a13) ?b13 ?c13
 case a13 =>
  have hq13 := hg13; (try simp only [zB, reduceCtorEq] at hg13); simp only [List.take_succ_cons, List.take_zero, List.cons_append, List.nil_append]
  (refine aG rfl fun K0 aa => ?_; simp only [zE, op1, ev, lkp, am, ak, ev, reduceCtorEq, J, E, U, Z, V, Y, Tryd.td28, Mly.av]; refine aa _ ?_; clear aa K0; simp only [put, app, af, aj, zE, zS, E])
  (refine aG rfl fun K0 aa => ?_; simp only [zE, op1, ev, lkp, am, ak, aJ, aK, aI, ay, aH, aX, reduceCtorEq, J, E, U, Z, V, Y, Tryd.td28, Tryd.td4, Mly.av]; (repeat refine And.intro (by first | omega | assumption | exact rfl) ?_); refine aa _ ?_; clear aa K0; simp only [put, app, af, aj, zE, zS, E])
  (refine ag rfl fun K0 aa => ?_; simp only [zE, op1, ev, lkp, am, ak, bU, reduceCtorEq, J, E, U, Z, V, Y, Tryd.td4, Mly.av]; refine aa _ ?_; clear aa K0; simp only [put, app, af, aj, zE, zS, E])
  refine aq ?_
  refine ⟨by simp only [ad, lkp, zE, reduceCtorEq, J, ae, E]; exact rfl, rfl, ?_, rfl⟩; (repeat refine bo rfl ?_); exact bY (by exact rfl) hq13
 case b13 => exact bV (by first | rfl | (simp [cD]; done) | decide)
 simp only [bM, bB]
 (refine ag rfl fun K0 aa => ?_; simp only [zE, op1, ev, lkp, am, ak, ev, reduceCtorEq, J, E, U, Z, V, Y, Tryd.td4, Mly.av]; refine aa _ ?_; clear aa K0; simp only [put, app, af, aj, zE, zS, E])
 refine' bn (want := false) 2 rfl (m := 80) (by simp only [ad, lkp, zE, reduceCtorEq, J, ae, E]; exact rfl) (by kernel_rfl) rfl rfl rfl rfl rfl (fun hg14 => ?a14) ?b14 ?c14
 case a14 =>
  have hq14 := hg14; (try simp only [zB, reduceCtorEq] at hg14); simp only [List.take_succ_cons, List.take_zero, List.cons_append, List.nil_append]
  (refine aG rfl fun K0 aa => ?_; simp only [zE, op1, ev, lkp, am, ak, ev, reduceCtorEq, J, E, U, Z, V, Y, Tryd.td4, Mly.av]; refine aa _ ?_; clear aa K0; simp only [put, app, af, aj, zE, zS, E])
  (refine aG rfl fun K0 aa => ?_; simp only [zE, op1, ev, lkp, am, ak, fw, reduceCtorEq, J, E, U, Z, V, Y, Tryd.td4, Mly.av]; (repeat refine And.intro (by first | omega | assumption | exact rfl) ?_); refine aa _ ?_; clear aa K0; simp only [put, app, af, aj, zE, zS, E])
  (refine ag rfl fun K0 aa => ?_; simp only [zE, op1, ev, lkp, am, ak, bU, reduceCtorEq, J, E, U, Z, V, Y, Tryd.td4, Mly.av]; refine aa _ ?_; clear aa K0; simp only [put, app, af, aj, zE, zS, E])
  refine aq ?_
  refine ⟨by simp only [ad, lkp, zE, reduceCtorEq, J, ae, E]; exact rfl, rfl, ?_, rfl⟩; (repeat refine bo rfl ?_); exact bY (by exact rfl) hq14
 case b14 => exact bV (by first | rfl | (simp [cD]; done) | decide)
 simp only [bM, bB]
 (refine ag rfl fun K0 aa => ?_; simp only [zE, op1, ev, lkp, am, ak, ev, reduceCtorEq, J, E, U, Z, V, Y, Tryd.td4, Mly.av]; refine aa _ ?_; clear aa K0; simp only [put, app, af, aj, zE, zS, E])
 refine' bn (want := false) 2 rfl (m := 84) (by simp only [ad, lkp, zE, reduceCtorEq, J, ae, E]; exact rfl) (by kernel_rfl) rfl rfl rfl rfl rfl (fun hg15 => ?a15) ?b15 ?c15
 case a15 =>
  have hq15 := hg15; (try simp only [zB, reduceCtorEq] at hg15); simp only [List.take_succ_cons, List.take_zero, List.cons_append, List.nil_append]
  (refine aG rfl fun K0 aa => ?_; simp only [zE, op1, ev, lkp, am, ak, ev, reduceCtorEq, J, E, U, Z, V, Y, Tryd.td4, Mly.av]; refine aa _ ?_; clear aa K0; simp only [put, app, af, aj, zE, zS, E])
  (refine aG rfl fun K0 aa => ?_; simp only [zE, op1, ev, lkp, am, ak, fw, reduceCtorEq, J, E, U, Z, V, Y, Tryd.td4, Mly.av]; (repeat refine And.intro (by first | omega | assumption | exact rfl) ?_); refine aa _ ?_; clear aa K0; simp only [put, app, af, aj, zE, zS, E])
  (refine ag rfl fun K0 aa => ?_; simp only [zE, op1, ev, lkp, am, ak, bU, reduceCtorEq, J, E, U, Z, V, Y, Tryd.td4, Mly.av]; refine aa _ ?_; clear aa K0; simp only [put, app, af, aj, zE, zS, E])
  refine aq ?_
  refine ⟨by simp only [ad, lkp, zE, reduceCtorEq, J, ae, E]; exact rfl, rfl, ?_, rfl⟩; (repeat refine bo rfl ?_); exact bY (by exact rfl) hq15
 case b15 => exact bV (by first | rfl | (simp [cD]; done) | decide)
 simp only [bM, bB]
 (refine ag rfl fun K0 aa => ?_; simp only [zE, op1, ev, lkp, am, ak, ev, reduceCtorEq, J, E, U, Z, V, Y, Tryd.td4, Mly.av]; refine aa _ ?_; clear aa K0; simp only [put, app, af, aj, zE, zS, E])
 refine' bn (want := false) 1 rfl (m := 88) (by simp only [ad, lkp, zE, reduceCtorEq, J, ae, E]; exact rfl) (by kernel_rfl) rfl rfl rfl rfl rfl (fun hg16 => ?a16) ?b16 ?c16
 case a16 =>
  have hq16 := hg16; (try simp only [zB, reduceCtorEq] at hg16); simp only [List.take_succ_cons, List.take_zero, List.cons_append, List.nil_append]
  (refine aG rfl fun K0 aa => ?_; simp only [zE, op1, ev, lkp, am, ak, ev, reduceCtorEq, J, E, U, Z, V, Y, Tryd.td4, Mly.av]; refine aa _ ?_; clear aa K0; simp only [put, app, af, aj, zE, zS, E])
  (refine ag rfl fun K0 aa => ?_; simp only [zE, op1, ev, lkp, am, ak, bU, reduceCtorEq, J, E, U, Z, V, Y, Tryd.td4, Mly.av]; refine aa _ ?_; clear aa K0; simp only [put, app, af, aj, zE, zS, E])
  refine aq ?_
  refine ⟨by simp only [ad, lkp, zE, reduceCtorEq, J, ae, E]; exact rfl, rfl, ?_, rfl⟩; (repeat refine bo rfl ?_); exact bY (by exact rfl) hq16
 case b16 => exact bV (by first | rfl | (simp [cD]; done) | decide)
 simp only [bM, bB]
 (refine ag rfl fun K0 aa => ?_; simp only [zE, op1, ev, lkp, am, ak, ev, reduceCtorEq, J, E, U, Z, V, Y, Tryd.td4, Mly.av]; refine aa _ ?_; clear aa K0; simp only [put, app, af, aj, zE, zS, E])
 refine' bn (want := false) 2 rfl (m := 91) (by simp only [ad, lkp, zE, reduceCtorEq, J, ae, E]; exact rfl) (by kernel_rfl) rfl rfl rfl rfl rfl (fun hg17 => ?a17) ?b17 ?c17
 case a17 =>
  have hq17 := hg17; (try simp only [zB, reduceCtorEq] at hg17); simp only [List.take_succ_cons, List.take_zero, List.cons_append, List.nil_append]
  (refine aG rfl fun K0 aa => ?_; simp only [zE, op1, ev, lkp, am, ak, ev, reduceCtorEq, J, E, U, Z, V, Y, Tryd.td4, Mly.av]; refine aa _ ?_; clear aa K0; simp only [put, app, af, aj, zE, zS, E])
  (refine aG rfl fun K0 aa => ?_; simp only [zE, op1, ev, lkp, am, ak, fw, reduceCtorEq, J, E, U, Z, V, Y, Tryd.td4, Mly.av]; (repeat refine And.intro (by first | omega | assumption | exact rfl) ?_); refine aa _ ?_; clear aa K0; simp only [put, app, af, aj, zE, zS, E])
  (refine ag rfl fun K0 aa => ?_; simp only [zE, op1, ev, lkp, am, ak, bU, reduceCtorEq, J, E, U, Z, V, Y, Tryd.td4, Mly.av]; refine aa _ ?_; clear aa K0; simp only [put, app, af, aj, zE, zS, E])
  refine aq ?_
  refine ⟨by simp only [ad, lkp, zE, reduceCtorEq, J, ae, E]; exact rfl, rfl, ?_, rfl⟩; (repeat refine bo rfl ?_); exact bY (by exact rfl) hq17
 case b17 => exact bV (by first | rfl | (simp [cD]; done) | decide)
 simp only [bM, bB]
 (refine ag rfl fun K0 aa => ?_; simp only [zE, op1, ev, lkp, am, ak, ev, reduceCtorEq, J, E, U, Z, V, Y, Tryd.td4, Mly.av]; refine aa _ ?_; clear aa K0; simp only [put, app, af, aj, zE, zS, E])
 refine' bn (want := false) 2 rfl (m := 95) (by simp only [ad, lkp, zE, reduceCtorEq, J, ae, E]; exact rfl) (by kernel_rfl) rfl rfl rfl rfl rfl (fun hg18 => ?a18) ?b18 ?c18
 case a18 =>
  have hq18 := hg18; (try simp only [zB, reduceCtorEq] at hg18); simp only [List.take_succ_cons, List.take_zero, List.cons_append, List.nil_append]
  (refine aG rfl fun K0 aa => ?_; simp only [zE, op1, ev, lkp, am, ak, ev, reduceCtorEq, J, E, U, Z, V, Y, Tryd.td3, Mly.av]; refine aa _ ?_; clear aa K0; simp only [put, app, af, aj, zE, zS, E])
  (refine aG rfl fun K0 aa => ?_; simp only [zE, op1, ev, lkp, am, ak, aJ, aK, aI, ay, aH, aX, reduceCtorEq, J, E, U, Z, V, Y, Tryd.td3, Tryd.td4, Mly.av]; (repeat refine And.intro (by first | omega | assumption | exact rfl) ?_); refine aa _ ?_; clear aa K0; simp only [put, app, af, aj, zE, zS, E])
  (refine ag rfl fun K0 aa => ?_; simp only [zE, op1, ev, lkp, am, ak, bU, reduceCtorEq, J, E, U, Z, V, Y, Tryd.td4, Mly.av]; refine aa _ ?_; clear aa K0; simp only [put, app, af, aj, zE, zS, E])
  refine aq ?_
  refine ⟨by simp only [ad, lkp, zE, reduceCtorEq, J, ae, E]; exact rfl, rfl, ?_, rfl⟩; (repeat refine bo rfl ?_); exact bY (by exact rfl) hq18
 case b18 => exact bV (by first | rfl | (simp [cD]; done) | decide)
 simp only [bM, bB]
 refine aq ?_
 refine hK9 _ ?_; clear hK9; refine ai [0, 1, 2, 3, 4, 5, 6, 7, 8, 9, 10, 11, 12, 13, 14, 15, 16, 17, 18, 98] ?_; simp only [ad, lkp, zE, reduceCtorEq, J, ae, E]
 refine aL (by simp only [ev, ad, lkp, zE, reduceCtorEq, J, ae, E]; exact rfl) (fun hc19 => ?_) (fun hc19 => ?_)
 · exfalso; (try simp only [zB, reduceCtorEq] at hc19); all_goals (first | (cases hc19; done) | omega | (simp at hc19; done) | (simp_all; done))
 ·(try simp only [zB, reduceCtorEq] at hc19)
  refine aT ?_
  refine hK8 _ ?_; clear hK8; refine ai [0, 1, 2, 3, 4, 5, 6, 7, 8, 9, 10, 11, 12, 13, 14, 15, 16, 17, 18, 98] ?_; simp only [ad, lkp, zE, reduceCtorEq, J, ae, E]
  refine ah fun K20 hK20 => ?_
  refine ao hP hN rfl ?_
  iterate 2 (refine ag rfl fun K0 aa => ?_; simp only [zE, op1, ev, lkp, am, ak, b0, bl, c8, rep, aM, aR, ax, Ty.size, reduceCtorEq, J, E, U, Z, V, Y, Tryd.el25, Tryd.td1, Tryd.td25, Mly.av]; (repeat refine And.intro (by first | omega | assumption | exact rfl) ?_); (first | refine aa _ ?_ | refine Or.inl (aa _ ?_)); clear aa K0; simp only [put, app, af, aj, zE, zS, E])
  refine ag rfl fun K0 aa => ?_
  refine aW (h := aF (hJ [0] [0])) rfl rfl (by first | exact rfl | (simp only [ev, ad, lkp, zE, reduceCtorEq, J, ae, E]; exact rfl)) (by simp only [zE, zG, op1, ev, lkp, am, ak, ax, acs, bf, mv1, mvC, Ty.dflt, reduceCtorEq, J, E, U, Z, V, Y, Mly.av]) ?_
  refine aa _ ?_; clear aa K0; simp only [put, app, af, aj, zE, zS, E]
  (refine ag rfl fun K0 aa => ?_; simp only [zE, op1, ev, lkp, am, ak, ev, reduceCtorEq, J, E, U, Z, V, Y, Tryd.td4, Mly.av]; refine aa _ ?_; clear aa K0; simp only [put, app, af, aj, zE, zS, E])
  refine' bn (want := true) 3 rfl (m := 102) (by simp only [ad, lkp, zE, reduceCtorEq, J, ae, E]; exact rfl) (by kernel_rfl) rfl rfl rfl rfl rfl (fun hg21 => ?a21) ?b21 ?c21
  case a21 =>
   have hq21 := hg21; (try simp only [zB, reduceCtorEq] at hg21); simp only [List.take_succ_cons, List.take_zero, List.cons_append, List.nil_append]
   (refine aG rfl fun K0 aa => ?_; simp only [zE, op1, ev, lkp, am, ak, ev, reduceCtorEq, J, E, U, Z, V, Y, Tryd.el25, Tryd.td25, Mly.av]; refine aa _ ?_; clear aa K0; simp only [put, app, af, aj, zE, zS, E])
   (refine aG rfl fun K0 aa => ?_; simp only [zE, op1, ev, lkp, am, ak, b0, bl, c8, rep, aM, aR, ax, Ty.size, reduceCtorEq, J, E, U, Z, V, Y, Tryd.el25, Tryd.td1, Tryd.td25, Mly.av]; (repeat refine And.intro (by first | omega | assumption | exact rfl) ?_); (first | refine aa _ ?_ | refine Or.inl (aa _ ?_)); clear aa K0; simp only [put, app, af, aj, zE, zS, E])
   refine aG rfl fun K0 aa => ?_
   refine aW (h := aF (hJ [1] [1])) rfl rfl (by first | exact rfl | (simp only [ev, ad, lkp, zE, reduceCtorEq, J, ae, E]; exact rfl)) (by simp only [zE, zG, op1, ev, lkp, am, ak, ax, acs, bf, mv1, mvC, Ty.dflt, reduceCtorEq, J, E, U, Z, V, Y, Mly.av]) ?_
   refine aa _ ?_; clear aa K0; simp only [put, app, af, aj, zE, zS, E]
   (refine ag rfl fun K0 aa => ?_; simp only [zE, op1, ev, lkp, am, ak, bU, reduceCtorEq, J, E, U, Z, V, Y, Tryd.td4, Mly.av]; refine aa _ ?_; clear aa K0; simp only [put, app, af, aj, zE, zS, E])
   refine aq ?_
   refine ⟨by simp only [ad, lkp, zE, reduceCtorEq, J, ae, E]; exact rfl, rfl, ?_, rfl⟩; (repeat refine bo rfl ?_); exact bY (by exact rfl) hq21
  case b21 => exact bV (by first | rfl | (simp [cD]; done) | decide)
  simp only [bM, bB]
  (refine ag rfl fun K0 aa => ?_; simp only [zE, op1, ev, lkp, am, ak, ev, reduceCtorEq, J, E, U, Z, V, Y, Tryd.td4, Mly.av]; refine aa _ ?_; clear aa K0; simp only [put, app, af, aj, zE, zS, E])
  refine' bn (want := true) 3 rfl (m := 107) (by simp only [ad, lkp, zE, reduceCtorEq, J, ae, E]; exact rfl) (by kernel_rfl) rfl rfl rfl rfl rfl (fun hg22 => ?a22) ?b22 ?c22
  case a22 =>
   have hq22 := hg22; (try simp only [zB, reduceCtorEq] at hg22); simp only [List.take_succ_cons, List.take_zero, List.cons_append, List.nil_append]
   (refine aG rfl fun K0 aa => ?_; simp only [zE, op1, ev, lkp, am, ak, ev, reduceCtorEq, J, E, U, Z, V, Y, Tryd.el25, Tryd.td25, Mly.av]; refine aa _ ?_; clear aa K0; simp only [put, app, af, aj, zE, zS, E])
   (refine aG rfl fun K0 aa => ?_; simp only [zE, op1, ev, lkp, am, ak, b0, bl, c8, rep, aM, aR, ax, Ty.size, reduceCtorEq, J, E, U, Z, V, Y, Tryd.el25, Tryd.td2, Tryd.td25, Mly.av]; (repeat refine And.intro (by first | omega | assumption | exact rfl) ?_); (first | refine aa _ ?_ | refine Or.inl (aa _ ?_)); clear aa K0; simp only [put, app, af, aj, zE, zS, E])
   refine aG rfl fun K0 aa => ?_
   refine aW (h := aF (hJ [0, 1] [0, 1])) rfl rfl (by first | exact rfl | (simp only [ev, ad, lkp, zE, reduceCtorEq, J, ae, E]; exact rfl)) (by simp only [zE, zG, op1, ev, lkp, am, ak, ax, acs, bf, mv1, mvC, Ty.dflt, reduceCtorEq, J, E, U, Z, V, Y, Mly.av]) ?_
   refine aa _ ?_; clear aa K0; simp only [put, app, af, aj, zE, zS, E]
   (refine ag rfl fun K0 aa => ?_; simp only [zE, op1, ev, lkp, am, ak, bU, reduceCtorEq, J, E, U, Z, V, Y, Tryd.td4, Mly.av]; refine aa _ ?_; clear aa K0; simp only [put, app, af, aj, zE, zS, E])
   refine aq ?_
   refine ⟨by simp only [ad, lkp, zE, reduceCtorEq, J, ae, E]; exact rfl, rfl, ?_, rfl⟩; (repeat refine bo rfl ?_); exact bY (by exact rfl) hq22
  case b22 => exact bV (by first | rfl | (simp [cD]; done) | decide)
  simp only [bM, bB]
  (refine ag rfl fun K0 aa => ?_; simp only [zE, op1, ev, lkp, am, ak, ev, reduceCtorEq, J, E, U, Z, V, Y, Tryd.td4, Mly.av]; refine aa _ ?_; clear aa K0; simp only [put, app, af, aj, zE, zS, E])
  refine' bn (want := true) 3 rfl (m := 112) (by simp only [ad, lkp, zE, reduceCtorEq, J, ae, E]; exact rfl) (by kernel_rfl) rfl rfl rfl rfl rfl (fun hg23 => ?a23) ?b23 ?c23
  case a23 =>
   have hq23 := hg23; (try simp only [zB, reduceCtorEq] at hg23); simp only [List.take_succ_cons, List.take_zero, List.cons_append, List.nil_append]
   (refine aG rfl fun K0 aa => ?_; simp only [zE, op1, ev, lkp, am, ak, ev, reduceCtorEq, J, E, U, Z, V, Y, Tryd.el25, Tryd.td25, Mly.av]; refine aa _ ?_; clear aa K0; simp only [put, app, af, aj, zE, zS, E])
   (refine aG rfl fun K0 aa => ?_; simp only [zE, op1, ev, lkp, am, ak, b0, bl, c8, rep, aM, aR, ax, Ty.size, reduceCtorEq, J, E, U, Z, V, Y, Tryd.el25, Tryd.td2, Tryd.td25, Mly.av]; (repeat refine And.intro (by first | omega | assumption | exact rfl) ?_); (first | refine aa _ ?_ | refine Or.inl (aa _ ?_)); clear aa K0; simp only [put, app, af, aj, zE, zS, E])
   refine aG rfl fun K0 aa => ?_
   refine aW (h := aF (hJ [0, 1] [0, 1])) rfl rfl (by first | exact rfl | (simp only [ev, ad, lkp, zE, reduceCtorEq, J, ae, E]; exact rfl)) (by simp only [zE, zG, op1, ev, lkp, am, ak, ax, acs, bf, mv1, mvC, Ty.dflt, reduceCtorEq, J, E, U, Z, V, Y, Mly.av]) ?_
   refine aa _ ?_; clear aa K0; simp only [put, app, af, aj, zE, zS, E]
   (refine ag rfl fun K0 aa => ?_; simp only [zE, op1, ev, lkp, am, ak, bU, reduceCtorEq, J, E, U, Z, V, Y, Tryd.td4, Mly.av]; refine aa _ ?_; clear aa K0; simp only [put, app, af, aj, zE, zS, E])
   refine aq ?_
   refine ⟨by simp only [ad, lkp, zE, reduceCtorEq, J, ae, E]; exact rfl, rfl, ?_, rfl⟩; (repeat refine bo rfl ?_); exact bY (by exact rfl) hq23
  case b23 => exact bV (by first | rfl | (simp [cD]; done) | decide)
  simp only [bM, bB]
  (refine ag rfl fun K0 aa => ?_; simp only [zE, op1, ev, lkp, am, ak, ev, reduceCtorEq, J, E, U, Z, V, Y, Tryd.td4, Mly.av]; refine aa _ ?_; clear aa K0; simp only [put, app, af, aj, zE, zS, E])
  refine' bn (want := true) 3 rfl (m := 117) (by simp only [ad, lkp, zE, reduceCtorEq, J, ae, E]; exact rfl) (by kernel_rfl) rfl rfl rfl rfl rfl (fun hg24 => ?a24) ?b24 ?c24
  case a24 =>
   have hq24 := hg24; (try simp only [zB, reduceCtorEq] at hg24); simp only [List.take_succ_cons, List.take_zero, List.cons_append, List.nil_append]
   (refine aG rfl fun K0 aa => ?_; simp only [zE, op1, ev, lkp, am, ak, ev, reduceCtorEq, J, E, U, Z, V, Y, Tryd.el25, Tryd.td25, Mly.av]; refine aa _ ?_; clear aa K0; simp only [put, app, af, aj, zE, zS, E])
   (refine aG rfl fun K0 aa => ?_; simp only [zE, op1, ev, lkp, am, ak, b0, bl, c8, rep, aM, aR, ax, Ty.size, reduceCtorEq, J, E, U, Z, V, Y, Tryd.el25, Tryd.td2, Tryd.td25, Mly.av]; (repeat refine And.intro (by first | omega | assumption | exact rfl) ?_); (first | refine aa _ ?_ | refine Or.inl (aa _ ?_)); clear aa K0; simp only [put, app, af, aj, zE, zS, E])
   refine aG rfl fun K0 aa => ?_
   refine aW (h := aF (hJ [0, 1] [0, 1])) rfl rfl (by first | exact rfl | (simp only [ev, ad, lkp, zE, reduceCtorEq, J, ae, E]; exact rfl)) (by simp only [zE, zG, op1, ev, lkp, am, ak, ax, acs, bf, mv1, mvC, Ty.dflt, reduceCtorEq, J, E, U, Z, V, Y, Mly.av]) ?_
   refine aa _ ?_; clear aa K0; simp only [put, app, af, aj, zE, zS, E]
   (refine ag rfl fun K0 aa => ?_; simp only [zE, op1, ev, lkp, am, ak, bU, reduceCtorEq, J, E, U, Z, V, Y, Tryd.td4, Mly.av]; refine aa _ ?_; clear aa K0; simp only [put, app, af, aj, zE, zS, E])
   refine aq ?_
   refine ⟨by simp only [ad, lkp, zE, reduceCtorEq, J, ae, E]; exact rfl, rfl, ?_, rfl⟩; (repeat refine bo rfl ?_); exact bY (by exact rfl) hq24
  case b24 => exact bV (by first | rfl | (simp [cD]; done) | decide)
  simp only [bM, bB]
  (refine ag rfl fun K0 aa => ?_; simp only [zE, op1, ev, lkp, am, ak, ev, reduceCtorEq, J, E, U, Z, V, Y, Tryd.td4, Mly.av]; refine aa _ ?_; clear aa K0; simp only [put, app, af, aj, zE, zS, E])
  refine' bn (want := true) 3 rfl (m := 122) (by simp only [ad, lkp, zE, reduceCtorEq, J, ae, E]; exact rfl) (by kernel_rfl) rfl rfl rfl rfl rfl (fun hg25 => ?a25) ?b25 ?c25
  case a25 =>
   have hq25 := hg25; (try simp only [zB, reduceCtorEq] at hg25); simp only [List.take_succ_cons, List.take_zero, List.cons_append, List.nil_append]
   (refine aG rfl fun K0 aa => ?_; simp only [zE, op1, ev, lkp, am, ak, ev, reduceCtorEq, J, E, U, Z, V, Y, Tryd.el25, Tryd.td25, Mly.av]; refine aa _ ?_; clear aa K0; simp only [put, app, af, aj, zE, zS, E])
   (refine aG rfl fun K0 aa => ?_; simp only [zE, op1, ev, lkp, am, ak, b0, bl, c8, rep, aM, aR, ax, Ty.size, reduceCtorEq, J, E, U, Z, V, Y, Tryd.el25, Tryd.td2, Tryd.td25, Mly.av]; (repeat refine And.intro (by first | omega | assumption | exact rfl) ?_); (first | refine aa _ ?_ | refine Or.inl (aa _ ?_)); clear aa K0; simp only [put, app, af, aj, zE, zS, E])
   refine aG rfl fun K0 aa => ?_
   refine aW (h := aF (hJ [0, 1] [0, 1])) rfl rfl (by first | exact rfl | (simp only [ev, ad, lkp, zE, reduceCtorEq, J, ae, E]; exact rfl)) (by simp only [zE, zG, op1, ev, lkp, am, ak, ax, acs, bf, mv1, mvC, Ty.dflt, reduceCtorEq, J, E, U, Z, V, Y, Mly.av]) ?_
   refine aa _ ?_; clear aa K0; simp only [put, app, af, aj, zE, zS, E]
   (refine ag rfl fun K0 aa => ?_; simp only [zE, op1, ev, lkp, am, ak, bU, reduceCtorEq, J, E, U, Z, V, Y, Tryd.td4, Mly.av]; refine aa _ ?_; clear aa K0; simp only [put, app, af, aj, zE, zS, E])
   refine aq ?_
   refine ⟨by simp only [ad, lkp, zE, reduceCtorEq, J, ae, E]; exact rfl, rfl, ?_, rfl⟩; (repeat refine bo rfl ?_); exact bY (by exact rfl) hq25
  case b25 => exact bV (by first | rfl | (simp [cD]; done) | decide)
  simp only [bM, bB]
  (refine ag rfl fun K0 aa => ?_; simp only [zE, op1, ev, lkp, am, ak, ev, reduceCtorEq, J, E, U, Z, V, Y, Tryd.td4, Mly.av]; refine aa _ ?_; clear aa K0; simp only [put, app, af, aj, zE, zS, E])
  refine' bn (want := true) 3 rfl (m := 127) (by simp only [ad, lkp, zE, reduceCtorEq, J, ae, E]; exact rfl) (by kernel_rfl) rfl rfl rfl rfl rfl (fun hg26 => ?a26) ?b26 ?c26
  case a26 =>
   have hq26 := hg26; (try simp only [zB, reduceCtorEq] at hg26); simp only [List.take_succ_cons, List.take_zero, List.cons_append, List.nil_append]
   (refine aG rfl fun K0 aa => ?_; simp only [zE, op1, ev, lkp, am, ak, ev, reduceCtorEq, J, E, U, Z, V, Y, Tryd.el25, Tryd.td25, Mly.av]; refine aa _ ?_; clear aa K0; simp only [put, app, af, aj, zE, zS, E])
   (refine aG rfl fun K0 aa => ?_; simp only [zE, op1, ev, lkp, am, ak, b0, bl, c8, rep, aM, aR, ax, Ty.size, reduceCtorEq, J, E, U, Z, V, Y, Tryd.el25, Tryd.td2, Tryd.td25, Mly.av]; (repeat refine And.intro (by first | omega | assumption | exact rfl) ?_); (first | refine aa _ ?_ | refine Or.inl (aa _ ?_)); clear aa K0; simp only [put, app, af, aj, zE, zS, E])
   refine aG rfl fun K0 aa => ?_
   refine aW (h := aF (hJ [2, 1] [2, 1])) rfl rfl (by first | exact rfl | (simp only [ev, ad, lkp, zE, reduceCtorEq, J, ae, E]; exact rfl)) (by simp only [zE, zG, op1, ev, lkp, am, ak, ax, acs, bf, mv1, mvC, Ty.dflt, reduceCtorEq, J, E, U, Z, V, Y, Mly.av]) ?_
   refine aa _ ?_; clear aa K0; simp only [put, app, af, aj, zE, zS, E]
   (refine ag rfl fun K0 aa => ?_; simp only [zE, op1, ev, lkp, am, ak, bU, reduceCtorEq, J, E, U, Z, V, Y, Tryd.td4, Mly.av]; refine aa _ ?_; clear aa K0; simp only [put, app, af, aj, zE, zS, E])
   refine aq ?_
   refine ⟨by simp only [ad, lkp, zE, reduceCtorEq, J, ae, E]; exact rfl, rfl, ?_, rfl⟩; (repeat refine bo rfl ?_); exact bY (by exact rfl) hq26
  case b26 => exact bV (by first | rfl | (simp [cD]; done) | decide)
  simp only [bM, bB]
  (refine ag rfl fun K0 aa => ?_; simp only [zE, op1, ev, lkp, am, ak, ev, reduceCtorEq, J, E, U, Z, V, Y, Tryd.td4, Mly.av]; refine aa _ ?_; clear aa K0; simp only [put, app, af, aj, zE, zS, E])
  refine aq ?_
  refine hK20 _ ?_; clear hK20; refine ai [0, 1, 2, 3, 4, 5, 6, 7, 8, 9, 10, 11, 12, 13, 14, 15, 16, 17, 18, 98] ?_; simp only [ad, lkp, zE, reduceCtorEq, J, ae, E]
  refine aU ?_
  refine ⟨by first | exact .inl rfl | exact .inr rfl, _, rfl, ?_⟩; simp only [fzV, fz1, fzC, List.map_cons, List.map_nil, ad, lkp, zE, reduceCtorEq, J, ae, E, Mly.av]
  refine VLE.of_eq ?_
  rfl
end Go.Proofs.YtceafldjjedhcaaDoor
namespace Go.AV
open Nat renaming reduceEqDiff → J, reduceAdd → E, reduceLeDiff → U, reduceLT → Z, reduceMul → V, reduceSub → Y
open List renaming set_cons_zero → aw, set_cons_succ → au
/-plain-/
/-! ### numbers of classes: an equivalence, and the list that a least member gives -/
structure EQT (T : Nat → Nat → Bool) (n : Nat) : Prop where
  rf : ∀ a, a < n → T a a = true
  sy : ∀ a b, a < n → b < n → T a b = true → T b a = true
  tr : ∀ a b c, a < n → b < n → c < n → T a b = true → T b c = true → T a c = true
structure NMP (T : Nat → Nat → Bool) (c : Nat) : Prop where
  at_ : ∀ q, q < c → 0 ≤ (nmS T c).1.getD q 0 ∧ (nmS T c).1.getD q 0 < (nmS T c).2.length ∧ T ((nmS T c).2.getD ((nmS T c).1.getD q 0).toNat 0).toNat q = true
  ap : ∀ x y, x < y → y < (nmS T c).2.length → T ((nmS T c).2.getD x 0).toNat ((nmS T c).2.getD y 0).toNat = false
theorem i7 {m : Mly} {s : Int} {c d : Nat} : i3 m s c d = true ↔ m.out s c = m.out s d ∧ m.eqc.getD (m.nxt s c).toNat 0 = m.eqc.getD (m.nxt s d).toNat 0 := by simp only [i3, Bool.and_eq_true, decide_eq_true_eq]
end Go.AV
namespace Go.AV
open Nat renaming reduceEqDiff → J, reduceAdd → E, reduceLeDiff → U, reduceLT → Z, reduceMul → V, reduceSub → Y
open List renaming set_cons_zero → aw, set_cons_succ → au
/-plain-/
structure Dfa where
  inp : Int
  st : Int
  nx : List (List Int)
  acc : List Bool
def Dfa.av (d : Dfa) : AV := .agg [.int .i64 d.inp, .int .i64 d.st, .list (.list (.int .i64)) d.nx, .list .bool d.acc]
def Dfa.row (d : Dfa) (s : Int) : List Int := d.nx.getD s.toNat []
def Dfa.dl (d : Dfa) (s a : Int) : Int := (d.row s).getD a.toNat 0
def Dfa.ac (d : Dfa) (s : Int) : Bool := d.acc.getD s.toNat false
def Dfa.run (d : Dfa) (s : Int) (w : List Int) : Int := w.foldl (fun s a => d.dl s a) s
def pB (n : Int) (t : Int) : Bool := decide (t < 0) || decide (n ≤ t)
def Dfa.cb (d : Dfa) (s a : Nat) : Prop := (d.row s).getD a 0 < 0 ∨ (d.nx.length : Int) ≤ (d.row s).getD a 0
def tA (d : Dfa) (s : Nat) : Int := if ¬ ((d.row s).length : Int) = d.inp then 1 else if 0 ≤ eh (pB d.nx.length) (d.row s) then 2 else 0
def dE (d : Dfa) : Int := if d.inp < 1 ∨ 1024 < d.inp then 2 else if d.nx.length = 0 then 19 else if 128 < d.nx.length then 11 else if d.st < 0 ∨ (d.nx.length : Int) ≤ d.st then 2 else if ¬ d.acc.length = d.nx.length then 1 else d8 (tA d) d.nx.length
theorem wD {d : Dfa} {s : Nat} (h : ((d.row s).length : Int) = d.inp) (h2 : ¬ 0 ≤ eh (pB d.nx.length) (d.row s)) : tA d s = 0 := by unfold tA; rw [if_neg (fun k => k h), if_neg h2]
theorem wb {n t : Int} : pB n t = true ↔ t < 0 ∨ n ≤ t := by unfold pB; simp
theorem wY {n t : Int} : pB n t = false ↔ ¬ (t < 0 ∨ n ≤ t) := by rw [← wb]; simp
theorem sA {d : Dfa} {s : Nat} (h : ((d.row s).length : Int) = d.inp) (hq : ∀ a : Nat, (a : Int) < d.inp → ¬ d.cb s a) : tA d s = 0 := by
  refine wD h ?_
  rw [jp fun q hq2 => wY.2 (hq q (by omega))]
  omega
structure DOK (d : Dfa) : Prop where
  i1 : 1 ≤ d.inp
  i2 : d.inp ≤ 1024
  n1 : 1 ≤ d.nx.length
  n2 : d.nx.length ≤ 128
  s1 : 0 ≤ d.st
  s2 : d.st < d.nx.length
  al : d.acc.length = d.nx.length
  rl : ∀ s : Nat, s < d.nx.length → ((d.row s).length : Int) = d.inp
  cl : ∀ s a : Nat, s < d.nx.length → (a : Int) < d.inp → 0 ≤ (d.row s).getD a 0 ∧ (d.row s).getD a 0 < d.nx.length
theorem DOK.dl {d : Dfa} (h : DOK d) {s a : Int} (hs : 0 ≤ s ∧ s < d.nx.length) (ha : 0 ≤ a ∧ a < d.inp) : 0 ≤ d.dl s a ∧ d.dl s a < d.nx.length := by
  have := h.cl s.toNat a.toNat (by omega) (by omega)
  unfold Dfa.dl
  have e : d.row (s.toNat : Int) = d.row s := by unfold Dfa.row; rw [Int.toNat_natCast]
  rw [e] at this; exact this
theorem DOK.valid {d : Dfa} (h : DOK d) : dE d = 0 := by
  have a1 := h.i1; have a2 := h.i2; have a3 := h.n1; have a4 := h.n2; have a5 := h.s1; have a6 := h.s2; have a7 := h.al
  unfold dE
  rw [if_neg (by omega), if_neg (by omega), if_neg (by omega), if_neg (by omega), if_neg (by omega)]
  exact cd fun s hs => sA (h.rl s hs) fun a ha hb => by
    have := h.cl s a hs ha
    unfold Dfa.cb at hb; omega
def acE (d : Dfa) (w : List Int) : Int := if ¬ dE d = 0 then dE d else d4 w d.inp
def acV (d : Dfa) (w : List Int) : Bool := if acE d w = 0 then d.ac (d.run d.st w) else false
def Dfa.co (d : Dfa) : Dfa := ⟨d.inp, d.st, d.nx, d.acc.map (!·)⟩
def t7 : Dfa := ⟨0, 0, [], []⟩
def coD (d : Dfa) : Dfa := if dE d = 0 then d.co else t7
def Dfa.om1 (d : Dfa) (r : List Int) : List Int := r.map fun t => if d.ac t = true then 1 else 0
def Dfa.om (d : Dfa) : List (List Int) := d.nx.map d.om1
def toE (d : Dfa) : Int := if ¬ dE d = 0 then dE d else if 64 < d.inp then 2 else 0
def toM (d : Dfa) : Mly := if toE d = 0 then ⟨d.inp, d.st, d.nx, d.om⟩ else ⟨0, 0, [], []⟩
theorem l8 {α : Type} (dv : α) {l : List α} {k : Nat} (h : k < l.length) : l.take (k + 1) = l.take k ++ [l.getD k dv] := by
  rw [List.take_add_one, List.getElem?_eq_getElem h]; simp [List.getD, h]
end Go.AV
