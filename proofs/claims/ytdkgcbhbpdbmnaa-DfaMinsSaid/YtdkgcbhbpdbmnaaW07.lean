/- Contracts of functions of this seat, each out of a walk through its code, and plain facts on what they compute. Conditions: those that each theorem names. -/
import Derived.Test.YtdkgcbhbpdbmnaaW06
set_option linter.unusedSimpArgs false
set_option linter.unusedVariables false
namespace Go.Proofs.Ytdkgcbhbpdbmnaa
open Go Go.AV
open Nat renaming reduceEqDiff → E, reduceAdd → D, reduceLeDiff → J, reduceLT → S, reduceMul → M, reduceSub → O
open List renaming set_cons_zero → ar, set_cons_succ → aq
set_option maxRecDepth 100000 in
set_option maxHeartbeats 2000000 in
theorem tc (d : Dfa) : bH Try.prog 27 [d.av] (.tup [(gK d).av, .one (.int .i64 (bc d))]) := by
 refine aR Try.func27 rfl (by kernel_rfl) (Nat.le_of_ble_eq_true rfl) rfl fun C hP hN hB => ?_
 replace hN : C.N = 175 := hN
 simp only [Y, D]
 refine Z fun K1 hK1 => ?_
 refine ae hP hN rfl ?_
 iterate 3 (refine ab rfl fun K0 V => ?_; simp only [zE, op1, ev, lkp, ai, ag, ch, am, bI, reduceCtorEq, E, D, J, S, M, O, Try.st25, Try.td25, Try.td3, Dfa.av]; (repeat refine And.intro (by first | omega | assumption | exact rfl) ?_); (first | refine V _ ?_ | refine Or.inl (V _ ?_)); clear V K0; simp only [put, app, aa, af, zE, zS, D])
 refine ah ?_
 refine hK1 _ ?_; clear hK1; refine ad [0, 1, 2, 3] ?_; simp only [U, lkp, zE, reduceCtorEq, E, Y, D]
 refine Z fun K2 hK2 => ?_
 refine ae hP hN rfl ?_
 iterate 2 (refine ab rfl fun K0 V => ?_; simp only [zE, op1, ev, lkp, ai, ag, ay, Nat.mul_one, au, ax, acs, Ty.dflt, zG, ao, reduceCtorEq, E, D, J, S, M, O, Try.st25, Try.td25, Dfa.av]; (repeat refine And.intro (by first | omega | assumption | exact rfl) ?_); refine V _ ?_; clear V K0; simp only [put, app, aa, af, zE, zS, D])
 refine ab rfl fun K0 V => ?_
 refine aS (h := aG (sU d)) rfl rfl (by first | exact rfl | (simp only [ev, U, lkp, zE, reduceCtorEq, E, Y, D]; exact rfl)) (by simp only [zE, zG, op1, ev, lkp, ai, ag, am, acs, be, mv1, mvC, Ty.dflt, reduceCtorEq, E, D, J, S, M, O, Dfa.av]) ?_
 refine V _ ?_; clear V K0; simp only [put, app, aa, af, zE, zS, D]
 iterate 6 (refine ab rfl fun K0 V => ?_; simp only [zE, op1, ev, lkp, ai, ag, bJ, bI, aX, Nat.mul_one, am, aN, aM, acs, Ty.size, Ty.dflt, zG, reduceCtorEq, E, D, J, S, M, O, Try.st25, Try.td1, Try.td25, Try.td3, Dfa.av]; (repeat refine And.intro (by first | omega | assumption | exact rfl) ?_); (first | refine V _ ?_ | refine Or.inl (V _ ?_)); clear V K0; simp only [put, app, aa, af, zE, zS, D])
 refine ah ?_
 refine hK2 _ ?_; clear hK2; refine ad [0, 1, 2, 3, 4, 5] ?_; simp only [U, lkp, zE, reduceCtorEq, E, Y, D]
 refine Z fun K3 hK3 => ?_
 refine Z fun K4 hK4 => ?_
 refine ae hP hN rfl ?_
 iterate 2 (refine ab rfl fun K0 V => ?_; simp only [zE, op1, ev, lkp, ai, ag, aC, aB, aD, ak, az, aO, reduceCtorEq, E, D, J, S, M, O, Try.td3, Try.td4, Dfa.av]; (repeat refine And.intro (by first | omega | assumption | exact rfl) ?_); refine V _ ?_; clear V K0; simp only [put, app, aa, af, zE, zS, D])
 refine ah ?_
 refine hK4 _ ?_; clear hK4; refine ad [0, 1, 2, 3, 4, 5, 25] ?_; simp only [U, lkp, zE, reduceCtorEq, E, Y, D]
 refine aA (by simp only [ev, U, lkp, zE, reduceCtorEq, E, Y, D]; exact rfl) (fun hc5 => ?_) (fun hc5 => ?_)
 ·(try simp only [zB, reduceCtorEq] at hc5)
  have hbad : ¬ bc d = 0 := fun h9 => by have h8 := (mJ (dx h9)).1; omega
  refine Z fun K6 hK6 => ?_
  refine ae hP hN rfl ?_
  iterate 4 (refine ab rfl fun K0 V => ?_; simp only [zE, op1, ev, lkp, ai, ag, bM, aW, aN, am, aX, Nat.mul_one, aM, acs, Ty.size, Ty.dflt, zG, reduceCtorEq, E, D, J, S, M, O, Try.st25, Try.td25, Try.td3, Dfa.av]; (repeat refine And.intro (by first | omega | assumption | exact rfl) ?_); (first | refine V _ ?_ | refine Or.inl (V _ ?_)); clear V K0; simp only [put, app, aa, af, zE, zS, D])
  refine ah ?_
  refine hK6 _ ?_; clear hK6; refine ad [0, 1, 2, 3, 4, 5, 25] ?_; simp only [U, lkp, zE, reduceCtorEq, E, Y, D]
  refine aJ ?_
  refine ⟨by first | exact .inl rfl | exact .inr rfl, _, rfl, ?_⟩; simp only [fzV, fz1, fzC, List.map_cons, List.map_nil, U, lkp, zE, reduceCtorEq, E, Y, D, Dfa.av]
  first
  | (have e1 : gK d = cJ := if_neg hbad
     rw [e1, kr hbad]; exact bC ⟨bB ⟨.refl _, .refl _, aQ rfl, aQ rfl, trivial⟩, bp (.refl _), trivial⟩)
  | (rw [hM, hv]; exact VLE.of_eq rfl)
 ·(try simp only [zB, reduceCtorEq] at hc5)
  have hv : bc d = 0 := Decidable.byContradiction fun h9 => by have h8 := kr h9; omega
  obtain ⟨_, _, ht⟩ := mJ (dx hv)
  have hM : gK d = r8 (trm d) := if_pos hv
  generalize trm d = t at *
  have a1 := ht.i1; have a2 := ht.i2; have a3 := ht.n1; have a4 := ht.n2; have a7 := ht.al
  refine aI ?_
  refine hK3 _ ?_; clear hK3; refine ad [0, 1, 2, 3, 4, 5, 25] ?_; simp only [U, lkp, zE, reduceCtorEq, E, Y, D]
  refine Z fun K7 hK7 => ?_
  refine ae hP hN rfl ?_
  iterate 4 (refine ab rfl fun K0 V => ?_; simp only [zE, op1, ev, lkp, ai, ag, aw, ay, Nat.mul_one, au, ax, acs, Ty.dflt, zG, ao, aK, br, bf, aY, b0, bn, Nat.div_one, aP, ba, Ty.size, aM, dite_true, reduceCtorEq, E, D, J, S, M, O, Try.el22, Try.st25, Try.td2, Try.td22, Try.td25, Try.td3, Dfa.av]; (repeat refine And.intro (by first | omega | assumption | exact rfl) ?_); (first | refine V _ ?_ | refine Or.inl (V _ ?_)); clear V K0; simp only [put, app, aa, af, zE, zS, D])
  refine ah ?_
  refine hK7 _ ?_; clear hK7; refine ad [0, 1, 2, 3, 4, 5, 6, 25] ?_; simp only [U, lkp, zE, reduceCtorEq, E, Y, D]
  refine Z fun K8 hK8 => ?_
  refine ae hP hN rfl ?_
  iterate 3 (refine ab rfl fun K0 V => ?_; simp only [zE, op1, ev, lkp, ai, ag, cq, aM, Ty.size, Ty.dflt, reduceCtorEq, E, D, J, S, M, O, Try.el26, Try.td26, Try.td3, Dfa.av]; (repeat refine And.intro (by first | omega | assumption | exact rfl) ?_); (first | refine V _ ?_ | refine Or.inl (V _ ?_)); clear V K0; simp only [put, app, aa, af, zE, zS, D])
  refine ah ?_
  refine hK8 _ ?_; clear hK8; refine ad [0, 1, 2, 3, 4, 5, 6, 7, 25] ?_; simp only [U, lkp, zE, reduceCtorEq, E, Y, D]
  refine Z fun K9 hK9 => ?_
  refine Z fun K10 hK10 => ?_
  refine ae hP hN rfl ?_
  (refine ab rfl fun K0 V => ?_; simp only [zE, op1, ev, lkp, ai, ag, ev, reduceCtorEq, E, D, J, S, M, O, Try.td3, Dfa.av]; refine V _ ?_; clear V K0; simp only [put, app, aa, af, zE, zS, D])
  refine ah ?_
  refine hK10 _ ?_; clear hK10; refine ad [0, 1, 2, 3, 4, 5, 6, 7, 8, 25] ?_; simp only [U, lkp, zE, reduceCtorEq, E, Y, D]
  refine aH ?_
  refine bj (fun n11 s11 => ∃ (k : Nat), (k ≤ t.nx.length) ∧ n11 = t.nx.length - k ∧ s11 = { env := [(2, .one (.ptr 1 0 0 0)), (3, .one (.int .i64 0)), (4, .one (.ptr 2 0 0 0)), (6, .one (.int .i64 (t.nx.length : Int))), (7, .one (.row 3 0)), (8, .one (.int .i64 (k : Int)))], L := [.vars 25 [.int .i64 d.inp, .int .i64 d.st, .list (.list (.int .i64)) d.nx, .list .bool d.acc], .vars 25 [.int .i64 0, .int .i64 0, .nils, .nils], .vars 25 [.int .i64 t.inp, .int .i64 t.st, .list (.list (.int .i64)) t.nx, .list .bool t.acc], .row (.int .i64) 3 0 (prL (rc0 t) t.nx.length k 0)] }) ?_ ?_
  ·exact ⟨_, _, aE [2, 3, 4, 6, 7, 8], 0, Nat.zero_le _, rfl, by rw [fQ]; rfl⟩
  ·rintro n11 s11 ⟨k, hk, rfl, rfl⟩
   refine Z fun K12 hK12 => ?_
   refine Z fun K13 hK13 => ?_
   refine ae hP hN rfl ?_
   iterate 3 (refine ab rfl fun K0 V => ?_; simp only [zE, op1, ev, lkp, ai, ag, aC, aB, aD, ak, az, aO, reduceCtorEq, E, D, J, S, M, O, Try.td3, Try.td4, Dfa.av]; (repeat refine And.intro (by first | omega | assumption | exact rfl) ?_); refine V _ ?_; clear V K0; simp only [put, app, aa, af, zE, zS, D])
   refine ah ?_
   refine hK13 _ ?_; clear hK13; refine ad [2, 3, 4, 6, 7, 8, 35] ?_; simp only [U, lkp, zE, reduceCtorEq, E, Y, D]
   refine aA (by simp only [ev, U, lkp, zE, reduceCtorEq, E, Y, D]; exact rfl) (fun hc14 => ?_) (fun hc14 => ?_)
   ·(try simp only [zB, reduceCtorEq] at hc14)
    refine aI ?_
    refine hK12 _ ?_; clear hK12; refine ad [2, 3, 4, 6, 7, 8, 35] ?_; simp only [U, lkp, zE, reduceCtorEq, E, Y, D]
    refine Z fun K15 hK15 => ?_
    refine aH ?_
    refine aH ?_
    refine bj (fun n16 s16 => ∃ (c : Nat), (c ≤ k) ∧ (∀ q, q < c → t.acc.getD q false ≠ t.acc.getD k false) ∧ n16 = k + 1 - c ∧ s16 = { env := [(2, .one (.ptr 1 0 0 0)), (3, .one (.int .i64 0)), (4, .one (.ptr 2 0 0 0)), (6, .one (.int .i64 (t.nx.length : Int))), (7, .one (.row 3 0)), (8, .one (.int .i64 (k : Int)))], L := [.vars 25 [.int .i64 d.inp, .int .i64 d.st, .list (.list (.int .i64)) d.nx, .list .bool d.acc], .vars 25 [.int .i64 0, .int .i64 0, .nils, .nils], .vars 25 [.int .i64 t.inp, .int .i64 t.st, .list (.list (.int .i64)) t.nx, .list .bool t.acc], .row (.int .i64) 3 0 (prL (rc0 t) t.nx.length k (c : Int))] }) ?_ ?_
    ·exact ⟨_, _, aE [2, 3, 4, 6, 7, 8], 0, Nat.zero_le _, fun q hq => by omega, rfl, rfl⟩
    ·rintro n16 s16 ⟨c, hc, hq, rfl, rfl⟩
     refine Z fun K17 hK17 => ?_
     refine Z fun K18 hK18 => ?_
     have hkn : k < t.nx.length := by omega
     refine bY hP hN Try.mixed rfl ?_
     iterate 6 (refine ab rfl fun K0 V => ?_; simp only [zE, op1, ev, lkp, ai, ag, aF, zG, Ty.dflt, Ty.size, Nat.mul_one, ne_eq, not_false_eq_true, Int.natCast_one, Int.mul_one, ay, au, ax, acs, ao, aC, aB, aD, ak, az, aO, reduceCtorEq, E, D, J, S, M, O, Try.el26, Try.td26, Try.td3, Try.td4, Dfa.av, bV hkn, bG, Int.toNat_natCast]; (repeat refine And.intro (by first | omega | assumption | exact rfl) ?_); refine V _ ?_; clear V K0; simp only [put, app, aa, af, zE, zS, D])
     (refine ab rfl fun K0 V => ?_; simp only [zE, op1, ev, lkp, ai, ag, ev, reduceCtorEq, E, D, J, S, M, O, Try.td4, Dfa.av, bV hkn, bG, Int.toNat_natCast]; refine V _ ?_; clear V K0; simp only [put, app, aa, af, zE, zS, D])
     refine' aU (want := true) 14 rfl (m := 44) (by simp only [U, lkp, zE, reduceCtorEq, E, Y, D]; exact rfl) (by kernel_rfl) rfl rfl rfl rfl rfl (fun hg19 => ?a19) ?b19 ?c19
     case a19 =>
      have hq19 := hg19; (try simp only [zB, reduceCtorEq] at hg19); simp only [List.take_succ_cons, List.take_zero, List.cons_append, List.nil_append]
      (refine aL rfl fun K0 V => ?_; simp only [zE, op1, ev, lkp, ai, ag, aw, reduceCtorEq, E, D, J, S, M, O, Try.st25, Try.td25, Try.td3, Dfa.av, bV hkn, bG, Int.toNat_natCast]; (repeat refine And.intro (by first | omega | assumption | exact rfl) ?_); refine V _ ?_; clear V K0; simp only [put, app, aa, af, zE, zS, D])
      (refine aL rfl fun K0 V => ?_; simp only [zE, op1, ev, lkp, ai, ag, ay, Nat.mul_one, au, ax, acs, Ty.dflt, zG, ao, reduceCtorEq, E, D, J, S, M, O, Try.el23, Try.td23, Dfa.av, bV hkn, bG, Int.toNat_natCast]; (repeat refine And.intro (by first | omega | assumption | exact rfl) ?_); refine V _ ?_; clear V K0; simp only [put, app, aa, af, zE, zS, D])
      (refine aL rfl fun K0 V => ?_; simp only [zE, op1, ev, lkp, ai, ag, ev, reduceCtorEq, E, D, J, S, M, O, Try.el26, Try.td26, Dfa.av, bV hkn, bG, Int.toNat_natCast]; refine V _ ?_; clear V K0; simp only [put, app, aa, af, zE, zS, D])
      (refine aL rfl fun K0 V => ?_; simp only [zE, op1, ev, lkp, ai, ag, ev, reduceCtorEq, E, D, J, S, M, O, Try.td3, Dfa.av, bV hkn, bG, Int.toNat_natCast]; refine V _ ?_; clear V K0; simp only [put, app, aa, af, zE, zS, D])
      (refine aL rfl fun K0 V => ?_; simp only [zE, op1, ev, lkp, ai, ag, aF, zG, Ty.dflt, Ty.size, Nat.mul_one, ne_eq, not_false_eq_true, Int.natCast_one, Int.mul_one, reduceCtorEq, E, D, J, S, M, O, Try.el26, Try.td26, Dfa.av, bV hkn, bG, Int.toNat_natCast]; (repeat refine And.intro (by first | omega | assumption | exact rfl) ?_); refine V _ ?_; clear V K0; simp only [put, app, aa, af, zE, zS, D])
      (refine aL rfl fun K0 V => ?_; simp only [zE, op1, ev, lkp, ai, ag, ay, Nat.mul_one, au, ax, acs, Ty.dflt, zG, ao, reduceCtorEq, E, D, J, S, M, O, Try.td3, Dfa.av, bV hkn, bG, Int.toNat_natCast]; (repeat refine And.intro (by first | omega | assumption | exact rfl) ?_); refine V _ ?_; clear V K0; simp only [put, app, aa, af, zE, zS, D])
      (refine aL rfl fun K0 V => ?_; simp only [zE, op1, ev, lkp, ai, ag, aF, zG, Ty.dflt, Ty.size, Nat.mul_one, ne_eq, not_false_eq_true, Int.natCast_one, Int.mul_one, reduceCtorEq, E, D, J, S, M, O, Try.el23, Try.td23, Dfa.av, bV hkn, bG, Int.toNat_natCast]; (repeat refine And.intro (by first | omega | assumption | exact rfl) ?_); refine V _ ?_; clear V K0; simp only [put, app, aa, af, zE, zS, D])
      (refine aL rfl fun K0 V => ?_; simp only [zE, op1, ev, lkp, ai, ag, ay, Nat.mul_one, au, ax, acs, Ty.dflt, zG, ao, reduceCtorEq, E, D, J, S, M, O, Try.td4, Dfa.av, bV hkn, bG, Int.toNat_natCast]; (repeat refine And.intro (by first | omega | assumption | exact rfl) ?_); refine V _ ?_; clear V K0; simp only [put, app, aa, af, zE, zS, D])
      (refine aL rfl fun K0 V => ?_; simp only [zE, op1, ev, lkp, ai, ag, aw, reduceCtorEq, E, D, J, S, M, O, Try.st25, Try.td25, Try.td3, Dfa.av, bV hkn, bG, Int.toNat_natCast]; (repeat refine And.intro (by first | omega | assumption | exact rfl) ?_); refine V _ ?_; clear V K0; simp only [put, app, aa, af, zE, zS, D])
      (refine aL rfl fun K0 V => ?_; simp only [zE, op1, ev, lkp, ai, ag, ay, Nat.mul_one, au, ax, acs, Ty.dflt, zG, ao, reduceCtorEq, E, D, J, S, M, O, Try.el23, Try.td23, Dfa.av, bV hkn, bG, Int.toNat_natCast]; (repeat refine And.intro (by first | omega | assumption | exact rfl) ?_); refine V _ ?_; clear V K0; simp only [put, app, aa, af, zE, zS, D])
      (refine aL rfl fun K0 V => ?_; simp only [zE, op1, ev, lkp, ai, ag, ev, reduceCtorEq, E, D, J, S, M, O, Try.td3, Dfa.av, bV hkn, bG, Int.toNat_natCast]; refine V _ ?_; clear V K0; simp only [put, app, aa, af, zE, zS, D])
      (refine aL rfl fun K0 V => ?_; simp only [zE, op1, ev, lkp, ai, ag, aF, zG, Ty.dflt, Ty.size, Nat.mul_one, ne_eq, not_false_eq_true, Int.natCast_one, Int.mul_one, reduceCtorEq, E, D, J, S, M, O, Try.el23, Try.td23, Dfa.av, bV hkn, bG, Int.toNat_natCast]; (repeat refine And.intro (by first | omega | assumption | exact rfl) ?_); refine V _ ?_; clear V K0; simp only [put, app, aa, af, zE, zS, D])
      (refine aL rfl fun K0 V => ?_; simp only [zE, op1, ev, lkp, ai, ag, ay, Nat.mul_one, au, ax, acs, Ty.dflt, zG, ao, reduceCtorEq, E, D, J, S, M, O, Try.td4, Dfa.av, bV hkn, bG, Int.toNat_natCast]; (repeat refine And.intro (by first | omega | assumption | exact rfl) ?_); refine V _ ?_; clear V K0; simp only [put, app, aa, af, zE, zS, D])
      (refine aL rfl fun K0 V => ?_; simp only [zE, op1, ev, lkp, ai, ag, aC, aB, aD, ak, az, aO, reduceCtorEq, E, D, J, S, M, O, Try.td4, Dfa.av, bV hkn, bG, Int.toNat_natCast]; (repeat refine And.intro (by first | omega | assumption | exact rfl) ?_); refine V _ ?_; clear V K0; simp only [put, app, aa, af, zE, zS, D])
      (refine ab rfl fun K0 V => ?_; simp only [zE, op1, ev, lkp, ai, ag, bq, reduceCtorEq, E, D, J, S, M, O, Try.td4, Dfa.av, bV hkn, bG, Int.toNat_natCast]; refine V _ ?_; clear V K0; simp only [put, app, aa, af, zE, zS, D])
      refine ah ?_
      refine ⟨by simp only [U, lkp, zE, reduceCtorEq, E, Y, D]; exact rfl, rfl, ?_, rfl⟩; (repeat refine aV rfl ?_); exact bu (by exact rfl) hq19
     case b19 => exact bt (by first | rfl | (simp [c0]; done) | decide)
     simp only [bm, bb]
     refine ah ?_
     refine ⟨by kernel_rfl, ?_⟩
     refine hK18 _ ?_; clear hK18; refine ad [2, 3, 4, 6, 7, 8, 59] ?_; simp only [U, lkp, zE, reduceCtorEq, E, Y, D]
     refine aA (by simp only [ev, U, lkp, zE, reduceCtorEq, E, Y, D]; exact rfl) (fun hc20 => ?_) (fun hc20 => ?_)
     ·(try simp only [zB, reduceCtorEq] at hc20)
      have hne : t.acc.getD c false ≠ t.acc.getD k false := by have h9 := hc20; simpa using h9.2
      refine aI ?_
      refine hK17 _ ?_; clear hK17; refine ad [2, 3, 4, 6, 7, 8, 59] ?_; simp only [U, lkp, zE, reduceCtorEq, E, Y, D]
      refine aH ?_
      have hkn : k < t.nx.length := by omega
      refine ae hP hN rfl ?_
      iterate 7 (refine ab rfl fun K0 V => ?_; simp only [zE, op1, ev, lkp, ai, ag, aF, zG, Ty.dflt, Ty.size, Nat.mul_one, ne_eq, not_false_eq_true, Int.natCast_one, Int.mul_one, ay, au, ax, acs, ao, aC, aB, aD, ak, az, aO, aX, am, aN, aM, reduceCtorEq, E, D, J, S, M, O, Try.el26, Try.td26, Try.td3, Dfa.av, bV hkn, bG, Int.toNat_natCast]; (repeat refine And.intro (by first | omega | assumption | exact rfl) ?_); refine V _ ?_; clear V K0; simp only [put, app, aa, af, zE, zS, D])
      refine ah ?_
      refine ⟨_, _, ?_, aE [2, 3, 4, 6, 7, 8], c + 1, by omega, fun q hq2 => ?_, rfl, ?_⟩
      · omega
      · by_cases e : q = c
        · rw [e]; exact hne
        · exact hq q (by omega)
      · rw [db hkn]; rfl
     ·(try simp only [zB, reduceCtorEq] at hc20)
      have hst : c < k → t.acc.getD c false = t.acc.getD k false := fun h => by have h9 := hc20; (rcases h9 with h9 | h9 <;> first | omega | simpa using h9)
      refine bg ?_
      refine hK15 _ ?_; clear hK15; refine ad [2, 3, 4, 6, 7, 8, 59] ?_; simp only [U, lkp, zE, reduceCtorEq, E, Y, D]
      refine ae hP hN rfl ?_
      iterate 3 (refine ab rfl fun K0 V => ?_; simp only [zE, op1, ev, lkp, ai, ag, aC, aB, aD, ak, az, aO, reduceCtorEq, E, D, J, S, M, O, Try.td3, Dfa.av]; (repeat refine And.intro (by first | omega | assumption | exact rfl) ?_); refine V _ ?_; clear V K0; simp only [put, app, aa, af, zE, zS, D])
      refine ah ?_
      refine ⟨_, _, ?_, aE [2, 3, 4, 6, 7, 8], k + 1, by omega, rfl, ?_⟩
      · omega
      · rw [show (c : Int) = rc0 t k from (sI (by omega) hq hst).symm, cE]; rfl
   ·(try simp only [zB, reduceCtorEq] at hc14)
    refine bg ?_
    refine hK9 _ ?_; clear hK9; refine ad [2, 3, 4, 6, 7, 8, 35] ?_; simp only [U, lkp, zE, reduceCtorEq, E, Y, D]
    refine Z fun K21 hK21 => ?_
    refine Z fun K22 hK22 => ?_
    refine ae hP hN rfl ?_
    (refine ab rfl fun K0 V => ?_; simp only [zE, op1, ev, lkp, ai, ag, ev, reduceCtorEq, E, D, J, S, M, O, Try.td3, Dfa.av]; refine V _ ?_; clear V K0; simp only [put, app, aa, af, zE, zS, D])
    refine ah ?_
    refine hK22 _ ?_; clear hK22; refine ad [2, 3, 4, 6, 7, 8, 9, 35] ?_; simp only [U, lkp, zE, reduceCtorEq, E, Y, D]
    refine aH ?_
    refine cD 3 rfl ?_; simp only [List.map_cons, List.map_nil, zS, E, and_self, and_true, true_and, and_false, false_and, if_true, if_false, eq_self, reduceCtorEq, Nat.one_ne_zero, Nat.zero_ne_one]
    obtain rfl : k = t.nx.length := by omega
    rw [dR, show (List.range t.nx.length).map (rc0 t) = rcl t 0 from rfl]
    refine cK (n := 3) (L1 := [_, _, _]) rfl rfl (by rw [hB]; decide) rfl rfl ?_
    refine bj (fun n23 s23 => ∃ (r : Nat), (r ≤ t.nx.length) ∧ n23 = t.nx.length - r ∧ s23 = { env := [(2, .one (.ptr 1 0 0 0)), (3, .one (.int .i64 0)), (4, .one (.ptr 2 0 0 0)), (6, .one (.int .i64 (t.nx.length : Int))), (7, .one (.list (.int .i64) (rcl t r))), (9, .one (.int .i64 (r : Int)))], L := [.vars 25 [.int .i64 d.inp, .int .i64 d.st, .list (.list (.int .i64)) d.nx, .list .bool d.acc], .vars 25 [.int .i64 0, .int .i64 0, .nils, .nils], .vars 25 [.int .i64 t.inp, .int .i64 t.st, .list (.list (.int .i64)) t.nx, .list .bool t.acc]] }) ?_ ?_
    ·exact ⟨_, _, aE [2, 3, 4, 6, 7, 9], 0, by omega, rfl, rfl⟩
    ·rintro n23 s23 ⟨r, hr, rfl, rfl⟩
     refine Z fun K24 hK24 => ?_
     refine Z fun K25 hK25 => ?_
     refine ae hP hN rfl ?_
     iterate 3 (refine ab rfl fun K0 V => ?_; simp only [zE, op1, ev, lkp, ai, ag, aC, aB, aD, ak, az, aO, reduceCtorEq, E, D, J, S, M, O, Try.td3, Try.td4, Dfa.av]; (repeat refine And.intro (by first | omega | assumption | exact rfl) ?_); refine V _ ?_; clear V K0; simp only [put, app, aa, af, zE, zS, D])
     refine ah ?_
     refine hK25 _ ?_; clear hK25; refine ad [2, 3, 4, 6, 7, 9, 68] ?_; simp only [U, lkp, zE, reduceCtorEq, E, Y, D]
     refine aA (by simp only [ev, U, lkp, zE, reduceCtorEq, E, Y, D]; exact rfl) (fun hc26 => ?_) (fun hc26 => ?_)
     ·(try simp only [zB, reduceCtorEq] at hc26)
      refine aI ?_
      refine hK24 _ ?_; clear hK24; refine ad [2, 3, 4, 6, 7, 9, 68] ?_; simp only [U, lkp, zE, reduceCtorEq, E, Y, D]
      refine Z fun K27 hK27 => ?_
      refine aH ?_
      refine Z fun K28 hK28 => ?_
      refine ae hP hN rfl ?_
      iterate 3 (refine ab rfl fun K0 V => ?_; simp only [zE, op1, ev, lkp, ai, ag, cq, aM, Ty.size, Ty.dflt, reduceCtorEq, E, D, J, S, M, O, Try.el26, Try.td26, Try.td3, Dfa.av]; (repeat refine And.intro (by first | omega | assumption | exact rfl) ?_); (first | refine V _ ?_ | refine Or.inl (V _ ?_)); clear V K0; simp only [put, app, aa, af, zE, zS, D])
      refine ah ?_
      refine hK28 _ ?_; clear hK28; refine ad [2, 3, 4, 6, 7, 9, 10, 68] ?_; simp only [U, lkp, zE, reduceCtorEq, E, Y, D]
      refine Z fun K29 hK29 => ?_
      refine Z fun K30 hK30 => ?_
      refine ae hP hN rfl ?_
      (refine ab rfl fun K0 V => ?_; simp only [zE, op1, ev, lkp, ai, ag, ev, reduceCtorEq, E, D, J, S, M, O, Try.td3, Dfa.av]; refine V _ ?_; clear V K0; simp only [put, app, aa, af, zE, zS, D])
      refine ah ?_
      refine hK30 _ ?_; clear hK30; refine ad [2, 3, 4, 6, 7, 9, 10, 11, 68] ?_; simp only [U, lkp, zE, reduceCtorEq, E, Y, D]
      refine aH ?_
      refine bj (fun n31 s31 => ∃ (s : Nat), (s ≤ t.nx.length) ∧ n31 = t.nx.length - s ∧ s31 = { env := [(2, .one (.ptr 1 0 0 0)), (3, .one (.int .i64 0)), (4, .one (.ptr 2 0 0 0)), (6, .one (.int .i64 (t.nx.length : Int))), (7, .one (.list (.int .i64) (rcl t r))), (9, .one (.int .i64 (r : Int))), (10, .one (.row 3 0)), (11, .one (.int .i64 (s : Int)))], L := [.vars 25 [.int .i64 d.inp, .int .i64 d.st, .list (.list (.int .i64)) d.nx, .list .bool d.acc], .vars 25 [.int .i64 0, .int .i64 0, .nils, .nils], .vars 25 [.int .i64 t.inp, .int .i64 t.st, .list (.list (.int .i64)) t.nx, .list .bool t.acc], .row (.int .i64) 3 0 (prL (rcF t (rcl t r)) t.nx.length s 0)] }) ?_ ?_
      ·exact ⟨_, _, aE [2, 3, 4, 6, 7, 9, 10, 11], 0, Nat.zero_le _, rfl, by rw [fQ]; rfl⟩
      ·rintro n31 s31 ⟨s, hs, rfl, rfl⟩
       refine Z fun K32 hK32 => ?_
       refine Z fun K33 hK33 => ?_
       refine ae hP hN rfl ?_
       iterate 3 (refine ab rfl fun K0 V => ?_; simp only [zE, op1, ev, lkp, ai, ag, aC, aB, aD, ak, az, aO, reduceCtorEq, E, D, J, S, M, O, Try.td3, Try.td4, Dfa.av]; (repeat refine And.intro (by first | omega | assumption | exact rfl) ?_); refine V _ ?_; clear V K0; simp only [put, app, aa, af, zE, zS, D])
       refine ah ?_
       refine hK33 _ ?_; clear hK33; refine ad [2, 3, 4, 6, 7, 9, 10, 11, 75] ?_; simp only [U, lkp, zE, reduceCtorEq, E, Y, D]
       refine aA (by simp only [ev, U, lkp, zE, reduceCtorEq, E, Y, D]; exact rfl) (fun hc34 => ?_) (fun hc34 => ?_)
       ·(try simp only [zB, reduceCtorEq] at hc34)
        refine aI ?_
        refine hK32 _ ?_; clear hK32; refine ad [2, 3, 4, 6, 7, 9, 10, 11, 75] ?_; simp only [U, lkp, zE, reduceCtorEq, E, Y, D]
        refine Z fun K35 hK35 => ?_
        refine aH ?_
        refine aH ?_
        refine bj (fun n36 s36 => ∃ (c : Nat), (c ≤ s) ∧ (∀ q, q < c → t.sg (rcl t r) q ≠ t.sg (rcl t r) s) ∧ n36 = s + 1 - c ∧ s36 = { env := [(2, .one (.ptr 1 0 0 0)), (3, .one (.int .i64 0)), (4, .one (.ptr 2 0 0 0)), (6, .one (.int .i64 (t.nx.length : Int))), (7, .one (.list (.int .i64) (rcl t r))), (9, .one (.int .i64 (r : Int))), (10, .one (.row 3 0)), (11, .one (.int .i64 (s : Int)))], L := [.vars 25 [.int .i64 d.inp, .int .i64 d.st, .list (.list (.int .i64)) d.nx, .list .bool d.acc], .vars 25 [.int .i64 0, .int .i64 0, .nils, .nils], .vars 25 [.int .i64 t.inp, .int .i64 t.st, .list (.list (.int .i64)) t.nx, .list .bool t.acc], .row (.int .i64) 3 0 (prL (rcF t (rcl t r)) t.nx.length s (c : Int))] }) ?_ ?_
        ·exact ⟨_, _, aE [2, 3, 4, 6, 7, 9, 10, 11], 0, Nat.zero_le _, fun q hq => by omega, rfl, rfl⟩
        ·rintro n36 s36 ⟨c, hc, hq, rfl, rfl⟩
         refine Z fun K37 hK37 => ?_
         refine Z fun K38 hK38 => ?_
         have hsn : s < t.nx.length := by omega
         have hrl9 := kz t r
         refine bY hP hN Try.mixed rfl ?_
         iterate 6 (refine ab rfl fun K0 V => ?_; simp only [zE, op1, ev, lkp, ai, ag, aF, zG, Ty.dflt, Ty.size, Nat.mul_one, ne_eq, not_false_eq_true, Int.natCast_one, Int.mul_one, ay, au, ax, acs, ao, aC, aB, aD, ak, az, aO, reduceCtorEq, E, D, J, S, M, O, Try.el26, Try.td26, Try.td3, Try.td4, Dfa.av, bV hsn, bG, Int.toNat_natCast]; (repeat refine And.intro (by first | omega | assumption | exact rfl) ?_); refine V _ ?_; clear V K0; simp only [put, app, aa, af, zE, zS, D])
         (refine ab rfl fun K0 V => ?_; simp only [zE, op1, ev, lkp, ai, ag, ev, reduceCtorEq, E, D, J, S, M, O, Try.td4, Dfa.av, bV hsn, bG, Int.toNat_natCast]; refine V _ ?_; clear V K0; simp only [put, app, aa, af, zE, zS, D])
         refine' aU (want := true) 9 rfl (m := 84) (by simp only [U, lkp, zE, reduceCtorEq, E, Y, D]; exact rfl) (by kernel_rfl) rfl rfl rfl rfl rfl (fun hg39 => ?a39) ?b39 ?c39
         case a39 =>
          have hq39 := hg39; (try simp only [zB, reduceCtorEq] at hg39); simp only [List.take_succ_cons, List.take_zero, List.cons_append, List.nil_append]
          (refine aL rfl fun K0 V => ?_; simp only [zE, op1, ev, lkp, ai, ag, ay, Nat.mul_one, au, ax, acs, Ty.dflt, zG, ao, reduceCtorEq, E, D, J, S, M, O, Try.st25, Try.td25, Dfa.av, bV hsn, bG, Int.toNat_natCast]; (repeat refine And.intro (by first | omega | assumption | exact rfl) ?_); refine V _ ?_; clear V K0; simp only [put, app, aa, af, zE, zS, D])
          (refine aL rfl fun K0 V => ?_; simp only [zE, op1, ev, lkp, ai, ag, ev, reduceCtorEq, E, D, J, S, M, O, Try.el26, Try.td26, Dfa.av, bV hsn, bG, Int.toNat_natCast]; refine V _ ?_; clear V K0; simp only [put, app, aa, af, zE, zS, D])
          (refine aL rfl fun K0 V => ?_; simp only [zE, op1, ev, lkp, ai, ag, ev, reduceCtorEq, E, D, J, S, M, O, Try.el26, Try.td26, Dfa.av, bV hsn, bG, Int.toNat_natCast]; refine V _ ?_; clear V K0; simp only [put, app, aa, af, zE, zS, D])
          (refine aL rfl fun K0 V => ?_; simp only [zE, op1, ev, lkp, ai, ag, ev, reduceCtorEq, E, D, J, S, M, O, Try.td3, Dfa.av, bV hsn, bG, Int.toNat_natCast]; refine V _ ?_; clear V K0; simp only [put, app, aa, af, zE, zS, D])
          (refine aL rfl fun K0 V => ?_; simp only [zE, op1, ev, lkp, ai, ag, aF, zG, Ty.dflt, Ty.size, Nat.mul_one, ne_eq, not_false_eq_true, Int.natCast_one, Int.mul_one, reduceCtorEq, E, D, J, S, M, O, Try.el26, Try.td26, Dfa.av, bV hsn, bG, Int.toNat_natCast]; (repeat refine And.intro (by first | omega | assumption | exact rfl) ?_); refine V _ ?_; clear V K0; simp only [put, app, aa, af, zE, zS, D])
          (refine aL rfl fun K0 V => ?_; simp only [zE, op1, ev, lkp, ai, ag, ay, Nat.mul_one, au, ax, acs, Ty.dflt, zG, ao, reduceCtorEq, E, D, J, S, M, O, Try.td3, Dfa.av, bV hsn, bG, Int.toNat_natCast]; (repeat refine And.intro (by first | omega | assumption | exact rfl) ?_); refine V _ ?_; clear V K0; simp only [put, app, aa, af, zE, zS, D])
          (refine aL rfl fun K0 V => ?_; simp only [zE, op1, ev, lkp, ai, ag, ev, reduceCtorEq, E, D, J, S, M, O, Try.td3, Dfa.av, bV hsn, bG, Int.toNat_natCast]; refine V _ ?_; clear V K0; simp only [put, app, aa, af, zE, zS, D])
          refine aL rfl fun K0 V => ?_
          refine aS (h := aG (qH t (rcl t r) c s ht (by omega) (by omega) (kz t r))) rfl rfl (by first | exact rfl | (simp only [ev, U, lkp, zE, reduceCtorEq, E, Y, D]; exact rfl)) (by simp only [zE, zG, op1, ev, lkp, ai, ag, am, acs, be, mv1, mvC, Ty.dflt, reduceCtorEq, E, D, J, S, M, O, Dfa.av, bV hsn, bG, Int.toNat_natCast]) ?_
          refine V _ ?_; clear V K0; simp only [put, app, aa, af, zE, zS, D]
          (refine aL rfl fun K0 V => ?_; simp only [zE, op1, ev, lkp, ai, ag, gb, reduceCtorEq, E, D, J, S, M, O, Try.td4, Dfa.av, bV hsn, bG, Int.toNat_natCast]; (repeat refine And.intro (by first | omega | assumption | exact rfl) ?_); refine V _ ?_; clear V K0; simp only [put, app, aa, af, zE, zS, D])
          (refine ab rfl fun K0 V => ?_; simp only [zE, op1, ev, lkp, ai, ag, bq, reduceCtorEq, E, D, J, S, M, O, Try.td4, Dfa.av, bV hsn, bG, Int.toNat_natCast]; refine V _ ?_; clear V K0; simp only [put, app, aa, af, zE, zS, D])
          refine ah ?_
          refine ⟨by simp only [U, lkp, zE, reduceCtorEq, E, Y, D]; exact rfl, rfl, ?_, rfl⟩; (repeat refine aV rfl ?_); exact bu (by exact rfl) hq39
         case b39 => exact bt (by first | rfl | (simp [c0]; done) | decide)
         simp only [bm, bb]
         refine ah ?_
         refine ⟨by kernel_rfl, ?_⟩
         refine hK38 _ ?_; clear hK38; refine ad [2, 3, 4, 6, 7, 9, 10, 11, 94] ?_; simp only [U, lkp, zE, reduceCtorEq, E, Y, D]
         refine aA (by simp only [ev, U, lkp, zE, reduceCtorEq, E, Y, D]; exact rfl) (fun hc40 => ?_) (fun hc40 => ?_)
         ·(try simp only [zB, reduceCtorEq] at hc40)
          have hne : t.sg (rcl t r) c ≠ t.sg (rcl t r) s := by have h9 := hc40; simpa using h9.2
          refine aI ?_
          refine hK37 _ ?_; clear hK37; refine ad [2, 3, 4, 6, 7, 9, 10, 11, 94] ?_; simp only [U, lkp, zE, reduceCtorEq, E, Y, D]
          refine aH ?_
          have hsn : s < t.nx.length := by omega
          refine ae hP hN rfl ?_
          iterate 7 (refine ab rfl fun K0 V => ?_; simp only [zE, op1, ev, lkp, ai, ag, aF, zG, Ty.dflt, Ty.size, Nat.mul_one, ne_eq, not_false_eq_true, Int.natCast_one, Int.mul_one, ay, au, ax, acs, ao, aC, aB, aD, ak, az, aO, aX, am, aN, aM, reduceCtorEq, E, D, J, S, M, O, Try.el26, Try.td26, Try.td3, Dfa.av, bV hsn, bG, Int.toNat_natCast]; (repeat refine And.intro (by first | omega | assumption | exact rfl) ?_); refine V _ ?_; clear V K0; simp only [put, app, aa, af, zE, zS, D])
          refine ah ?_
          refine ⟨_, _, ?_, aE [2, 3, 4, 6, 7, 9, 10, 11], c + 1, by omega, fun q hq2 => ?_, rfl, ?_⟩
          · omega
          · by_cases e : q = c
            · rw [e]; exact hne
            · exact hq q (by omega)
          · rw [db hsn]; rfl
         ·(try simp only [zB, reduceCtorEq] at hc40)
          have hst : c < s → t.sg (rcl t r) c = t.sg (rcl t r) s := fun h => by have h9 := hc40; (rcases h9 with h9 | h9 <;> first | omega | simpa using h9)
          refine bg ?_
          refine hK35 _ ?_; clear hK35; refine ad [2, 3, 4, 6, 7, 9, 10, 11, 94] ?_; simp only [U, lkp, zE, reduceCtorEq, E, Y, D]
          refine ae hP hN rfl ?_
          iterate 3 (refine ab rfl fun K0 V => ?_; simp only [zE, op1, ev, lkp, ai, ag, aC, aB, aD, ak, az, aO, reduceCtorEq, E, D, J, S, M, O, Try.td3, Dfa.av]; (repeat refine And.intro (by first | omega | assumption | exact rfl) ?_); refine V _ ?_; clear V K0; simp only [put, app, aa, af, zE, zS, D])
          refine ah ?_
          refine ⟨_, _, ?_, aE [2, 3, 4, 6, 7, 9, 10, 11], s + 1, by omega, rfl, ?_⟩
          · omega
          · rw [show (c : Int) = rcF t (rcl t r) s from (sG (by omega) hq hst).symm, cE]; rfl
       ·(try simp only [zB, reduceCtorEq] at hc34)
        refine bg ?_
        refine hK29 _ ?_; clear hK29; refine ad [2, 3, 4, 6, 7, 9, 10, 11, 75] ?_; simp only [U, lkp, zE, reduceCtorEq, E, Y, D]
        refine cD 3 rfl ?_; simp only [List.map_cons, List.map_nil, zS, E, and_self, and_true, true_and, and_false, false_and, if_true, if_false, eq_self, reduceCtorEq, Nat.one_ne_zero, Nat.zero_ne_one]
        have hs8 : s = t.nx.length := by omega
        rw [hs8, dR, show (List.range t.nx.length).map (rcF t (rcl t r)) = rcl t (r + 1) from rfl]
        refine ae hP hN rfl ?_
        iterate 2 (refine ab rfl fun K0 V => ?_; simp only [zE, op1, ev, lkp, ai, ag, ev, reduceCtorEq, E, D, J, S, M, O, Try.el26, Try.td26, Dfa.av]; refine V _ ?_; clear V K0; simp only [put, app, aa, af, zE, zS, D])
        refine ah ?_
        refine hK27 _ ?_; clear hK27; refine ad [2, 3, 4, 6, 7, 9, 10, 11, 75] ?_; simp only [U, lkp, zE, reduceCtorEq, E, Y, D]
        refine cK (n := 3) (L1 := [_, _, _]) rfl rfl (by rw [hB]; decide) rfl rfl ?_
        refine ae hP hN rfl ?_
        iterate 3 (refine ab rfl fun K0 V => ?_; simp only [zE, op1, ev, lkp, ai, ag, aC, aB, aD, ak, az, aO, reduceCtorEq, E, D, J, S, M, O, Try.td3, Dfa.av]; (repeat refine And.intro (by first | omega | assumption | exact rfl) ?_); refine V _ ?_; clear V K0; simp only [put, app, aa, af, zE, zS, D])
        refine ah ?_
        refine ⟨_, _, ?_, aE [2, 3, 4, 6, 7, 9], r + 1, by omega, rfl, rfl⟩
        omega
     ·(try simp only [zB, reduceCtorEq] at hc26)
      refine bg ?_
      refine hK21 _ ?_; clear hK21; refine ad [2, 3, 4, 6, 7, 9, 68] ?_; simp only [U, lkp, zE, reduceCtorEq, E, Y, D]
      refine Z fun K41 hK41 => ?_
      have hrn : r = t.nx.length := by omega
      rw [hrn, show rcl t t.nx.length = rC t from rfl]
      have hK := rck ht
      have hCl : (rC t).length = t.nx.length := kz t _
      refine ae hP hN rfl ?_
      iterate 5 (refine ab rfl fun K0 V => ?_; simp only [zE, op1, ev, lkp, ai, ag, aw, ay, Nat.mul_one, au, ax, acs, Ty.dflt, zG, ao, bM, aW, aN, am, bI, aX, aM, Ty.size, reduceCtorEq, E, D, J, S, M, O, Try.st25, Try.td25, Try.td3, Dfa.av]; (repeat refine And.intro (by first | omega | assumption | exact rfl) ?_); (first | refine V _ ?_ | refine Or.inl (V _ ?_)); clear V K0; simp only [put, app, aa, af, zE, zS, D])
      refine ah ?_
      refine hK41 _ ?_; clear hK41; refine ad [2, 3, 4, 6, 7, 9, 12, 68] ?_; simp only [U, lkp, zE, reduceCtorEq, E, Y, D]
      refine Z fun K42 hK42 => ?_
      refine ae hP hN rfl ?_
      iterate 3 (refine ab rfl fun K0 V => ?_; simp only [zE, op1, ev, lkp, ai, ag, cq, aM, Ty.size, Ty.dflt, reduceCtorEq, E, D, J, S, M, O, Try.el26, Try.td26, Try.td3, Dfa.av]; (repeat refine And.intro (by first | omega | assumption | exact rfl) ?_); (first | refine V _ ?_ | refine Or.inl (V _ ?_)); clear V K0; simp only [put, app, aa, af, zE, zS, D])
      refine ah ?_
      refine hK42 _ ?_; clear hK42; refine ad [2, 3, 4, 6, 7, 9, 12, 13, 68] ?_; simp only [U, lkp, zE, reduceCtorEq, E, Y, D]
      refine Z fun K43 hK43 => ?_
      refine Z fun K44 hK44 => ?_
      refine ae hP hN rfl ?_
      (refine ab rfl fun K0 V => ?_; simp only [zE, op1, ev, lkp, ai, ag, ev, reduceCtorEq, E, D, J, S, M, O, Try.td3, Dfa.av]; refine V _ ?_; clear V K0; simp only [put, app, aa, af, zE, zS, D])
      refine ah ?_
      refine hK44 _ ?_; clear hK44; refine ad [2, 3, 4, 6, 7, 9, 12, 13, 14, 68] ?_; simp only [U, lkp, zE, reduceCtorEq, E, Y, D]
      refine aH ?_
      refine cF 3 3 (.bool) 4 (by decide) rfl rfl ?_; simp only [zS, List.length_cons, List.length_nil, List.cons_append, List.nil_append, Nat.zero_add, D]
      refine bj (fun n45 s45 => ∃ (s : Nat) (v : Nat), (s ≤ t.nx.length) ∧ n45 = t.nx.length - s ∧ s45 = { env := [(2, .one (.ptr 1 0 0 0)), (3, .one (.int .i64 0)), (4, .one (.ptr 2 0 0 0)), (6, .one (.int .i64 (t.nx.length : Int))), (7, .one (.list (.int .i64) (rC t))), (12, .one (.ptr 3 0 0 0)), (13, .one (.row 4 0)), (14, .one (.int .i64 (s : Int)))], L := [.vars 25 [.int .i64 d.inp, .int .i64 d.st, .list (.list (.int .i64)) d.nx, .list .bool d.acc], .vars 25 [.int .i64 0, .int .i64 0, .nils, .nils], .vars 25 [.int .i64 t.inp, .int .i64 t.st, .list (.list (.int .i64)) t.nx, .list .bool t.acc], .vars 25 [.int .i64 t.inp, .int .i64 0, .nils, .row 5 v], .row (.int .i64) 3 0 (prL (nmV (rC t)) t.nx.length s 0), .row .bool 4 v ((ffR (rC t) s).map fun q => t.acc.getD q false)] }) ?_ ?_
      ·exact ⟨_, _, aE [2, 3, 4, 6, 7, 12, 13, 14], 0, 0, Nat.zero_le _, rfl, by rw [fQ]; rfl⟩
      ·rintro n45 s45 ⟨s, v, hs, rfl, rfl⟩
       refine Z fun K46 hK46 => ?_
       refine Z fun K47 hK47 => ?_
       refine ae hP hN rfl ?_
       iterate 3 (refine ab rfl fun K0 V => ?_; simp only [zE, op1, ev, lkp, ai, ag, aC, aB, aD, ak, az, aO, reduceCtorEq, E, D, J, S, M, O, Try.td3, Try.td4, Dfa.av]; (repeat refine And.intro (by first | omega | assumption | exact rfl) ?_); refine V _ ?_; clear V K0; simp only [put, app, aa, af, zE, zS, D])
       refine ah ?_
       refine hK47 _ ?_; clear hK47; refine ad [2, 3, 4, 6, 7, 12, 13, 14, 109] ?_; simp only [U, lkp, zE, reduceCtorEq, E, Y, D]
       refine aA (by simp only [ev, U, lkp, zE, reduceCtorEq, E, Y, D]; exact rfl) (fun hc48 => ?_) (fun hc48 => ?_)
       ·(try simp only [zB, reduceCtorEq] at hc48)
        refine aI ?_
        refine hK46 _ ?_; clear hK46; refine ad [2, 3, 4, 6, 7, 12, 13, 14, 109] ?_; simp only [U, lkp, zE, reduceCtorEq, E, Y, D]
        refine Z fun K49 hK49 => ?_
        refine aH ?_
        refine Z fun K50 hK50 => ?_
        refine ae hP hN rfl ?_
        iterate 6 (refine ab rfl fun K0 V => ?_; simp only [zE, op1, ev, lkp, ai, ag, aF, zG, Ty.dflt, Ty.size, Nat.mul_one, ne_eq, not_false_eq_true, Int.natCast_one, Int.mul_one, ay, au, ax, acs, ao, aC, aB, aD, ak, az, aO, reduceCtorEq, E, D, J, S, M, O, Try.el26, Try.td26, Try.td3, Try.td4, Dfa.av]; (repeat refine And.intro (by first | omega | assumption | exact rfl) ?_); refine V _ ?_; clear V K0; simp only [put, app, aa, af, zE, zS, D])
        refine ah ?_
        refine hK50 _ ?_; clear hK50; refine ad [2, 3, 4, 6, 7, 12, 13, 14, 109, 117] ?_; simp only [U, lkp, zE, reduceCtorEq, E, Y, D]
        refine aA (by simp only [ev, U, lkp, zE, reduceCtorEq, E, Y, D]; exact rfl) (fun hc51 => ?_) (fun hc51 => ?_)
        ·(try simp only [zB, reduceCtorEq] at hc51)
         have hy : (rC t).getD s 0 = (s : Int) := hc51
         refine Z fun K52 hK52 => ?_
         have hfl := mu (rC t) s
         refine ae hP hN rfl ?_
         iterate 7 (refine ab rfl fun K0 V => ?_; simp only [zE, op1, ev, lkp, ai, ag, aw, ay, Nat.mul_one, au, ax, acs, Ty.dflt, zG, ao, aK, br, bf, aY, b0, bn, Nat.div_one, aP, ba, Ty.size, aM, dite_true, aF, ne_eq, not_false_eq_true, Int.natCast_one, Int.mul_one, aX, am, aN, reduceCtorEq, E, D, J, S, M, O, Try.el23, Try.el26, Try.st25, Try.td23, Try.td25, Try.td26, Try.td3, Dfa.av, bG, List.length_map]; (repeat refine And.intro (by first | omega | assumption | exact rfl) ?_); (first | refine V _ ?_ | refine Or.inl (V _ ?_)); clear V K0; simp only [put, app, aa, af, zE, zS, D])
         refine ah ?_
         refine hK52 _ ?_; clear hK52; refine ad [2, 3, 4, 6, 7, 12, 13, 14, 109, 117] ?_; simp only [U, lkp, zE, reduceCtorEq, E, Y, D]
         have hfl := mu (rC t) s
         refine bY hP hN Try.mixed rfl ?_
         iterate 11 (refine ab rfl fun K0 V => ?_; simp only [zE, op1, ev, lkp, ai, ag, aw, ay, Nat.mul_one, au, ax, acs, Ty.dflt, zG, ao, aF, Ty.size, ne_eq, not_false_eq_true, Int.natCast_one, Int.mul_one, aZ, aW, bW, rep, aM, aN, am, aK, br, bf, aY, b0, bn, Nat.div_one, aP, ba, dite_true, aX, reduceCtorEq, E, D, J, S, M, O, Try.el23, Try.st25, Try.td1, Try.td23, Try.td25, Try.td3, Try.td4, Dfa.av, List.length_map]; (repeat refine And.intro (by first | omega | assumption | exact rfl) ?_); (first | refine V _ ?_ | refine Or.inl (V _ ?_)); clear V K0; simp only [put, app, aa, af, zE, zS, D])
         refine ah ?_
         refine ⟨by kernel_rfl, ?_⟩
         refine hK49 _ ?_; clear hK49; refine ad [2, 3, 4, 6, 7, 12, 13, 14, 109, 117] ?_; simp only [U, lkp, zE, reduceCtorEq, E, Y, D]
         refine ae hP hN rfl ?_
         iterate 3 (refine ab rfl fun K0 V => ?_; simp only [zE, op1, ev, lkp, ai, ag, aC, aB, aD, ak, az, aO, reduceCtorEq, E, D, J, S, M, O, Try.td3, Dfa.av]; (repeat refine And.intro (by first | omega | assumption | exact rfl) ?_); refine V _ ?_; clear V K0; simp only [put, app, aa, af, zE, zS, D])
         refine ah ?_
         first
         | (have hv9 : ((ffR (rC t) s).length : Int) = nmV (rC t) s := (if_pos hy).symm
            refine ⟨_, _, ?_, aE [2, 3, 4, 6, 7, 12, 13, 14], s + 1, v + 1, by omega, rfl, ?_⟩
            · omega
            · rw [hv9, db (by omega), cE, eP hy, List.map_append]; rfl)
         | (have hv9 : (0 : Int) = nmV (rC t) s := (if_neg hy).symm
            have hv8 : prL (nmV (rC t)) t.nx.length s 0 = prL (nmV (rC t)) t.nx.length (s + 1) 0 := by rw [← cE, ← hv9]
            refine ⟨_, _, ?_, aE [2, 3, 4, 6, 7, 12, 13, 14], s + 1, v, by omega, rfl, ?_⟩
            · omega
            · rw [hv8, gE hy]; rfl)
        ·(try simp only [zB, reduceCtorEq] at hc51)
         have hy : ¬ (rC t).getD s 0 = (s : Int) := hc51
         refine aI ?_
         refine hK49 _ ?_; clear hK49; refine ad [2, 3, 4, 6, 7, 12, 13, 14, 109, 117] ?_; simp only [U, lkp, zE, reduceCtorEq, E, Y, D]
         refine ae hP hN rfl ?_
         iterate 3 (refine ab rfl fun K0 V => ?_; simp only [zE, op1, ev, lkp, ai, ag, aC, aB, aD, ak, az, aO, reduceCtorEq, E, D, J, S, M, O, Try.td3, Dfa.av]; (repeat refine And.intro (by first | omega | assumption | exact rfl) ?_); refine V _ ?_; clear V K0; simp only [put, app, aa, af, zE, zS, D])
         refine ah ?_
         first
         | (have hv9 : ((ffR (rC t) s).length : Int) = nmV (rC t) s := (if_pos hy).symm
            refine ⟨_, _, ?_, aE [2, 3, 4, 6, 7, 12, 13, 14], s + 1, v + 1, by omega, rfl, ?_⟩
            · omega
            · rw [hv9, db (by omega), cE, eP hy, List.map_append]; rfl)
         | (have hv9 : (0 : Int) = nmV (rC t) s := (if_neg hy).symm
            have hv8 : prL (nmV (rC t)) t.nx.length s 0 = prL (nmV (rC t)) t.nx.length (s + 1) 0 := by rw [← cE, ← hv9]
            refine ⟨_, _, ?_, aE [2, 3, 4, 6, 7, 12, 13, 14], s + 1, v, by omega, rfl, ?_⟩
            · omega
            · rw [hv8, gE hy]; rfl)
       ·(try simp only [zB, reduceCtorEq] at hc48)
        refine bg ?_
        refine hK43 _ ?_; clear hK43; refine ad [2, 3, 4, 6, 7, 12, 13, 14, 109] ?_; simp only [U, lkp, zE, reduceCtorEq, E, Y, D]
        refine Z fun K53 hK53 => ?_
        refine Z fun K54 hK54 => ?_
        refine ae hP hN rfl ?_
        (refine ab rfl fun K0 V => ?_; simp only [zE, op1, ev, lkp, ai, ag, ev, reduceCtorEq, E, D, J, S, M, O, Try.td3, Dfa.av]; refine V _ ?_; clear V K0; simp only [put, app, aa, af, zE, zS, D])
        refine ah ?_
        refine hK54 _ ?_; clear hK54; refine ad [2, 3, 4, 6, 7, 12, 13, 14, 15, 109] ?_; simp only [U, lkp, zE, reduceCtorEq, E, Y, D]
        refine aH ?_
        refine cD 4 rfl ?_; simp only [List.map_cons, List.map_nil, zS, E, and_self, and_true, true_and, and_false, false_and, if_true, if_false, eq_self, reduceCtorEq, Nat.one_ne_zero, Nat.zero_ne_one]
        obtain rfl : s = t.nx.length := by omega
        rw [dR, show (List.range t.nx.length).map (nmV (rC t)) = nmL (rC t) t.nx.length from rfl]
        refine cF 3 2 (.list (.int .i64)) 26 (by decide) rfl rfl ?_; simp only [zS, List.length_cons, List.length_nil, List.cons_append, List.nil_append, Nat.zero_add, D]
        refine bj (fun n55 s55 => ∃ (p : Nat) (u : Nat), (p ≤ t.nx.length) ∧ n55 = t.nx.length - p ∧ s55 = { env := [(2, .one (.ptr 1 0 0 0)), (3, .one (.int .i64 0)), (4, .one (.ptr 2 0 0 0)), (6, .one (.int .i64 (t.nx.length : Int))), (7, .one (.list (.int .i64) (rC t))), (12, .one (.ptr 3 0 0 0)), (13, .one (.list (.int .i64) (nmL (rC t) t.nx.length))), (15, .one (.int .i64 (p : Int)))], L := [.vars 25 [.int .i64 d.inp, .int .i64 d.st, .list (.list (.int .i64)) d.nx, .list .bool d.acc], .vars 25 [.int .i64 0, .int .i64 0, .nils, .nils], .vars 25 [.int .i64 t.inp, .int .i64 t.st, .list (.list (.int .i64)) t.nx, .list .bool t.acc], .vars 25 [.int .i64 t.inp, .int .i64 0, .row 6 u, .row 5 v], .dead 0, .row .bool 4 v ((ffR (rC t) t.nx.length).map fun q => t.acc.getD q false), .row (.list (.int .i64)) 26 u ((ffR (rC t) p).map fun q => rwM t (rC t) q t.inp.toNat)] }) ?_ ?_
        ·exact ⟨_, _, aE [2, 3, 4, 6, 7, 12, 13, 15], 0, 0, Nat.zero_le _, rfl, rfl⟩
        ·rintro n55 s55 ⟨p, u, hp, rfl, rfl⟩
         refine Z fun K56 hK56 => ?_
         refine Z fun K57 hK57 => ?_
         refine ae hP hN rfl ?_
         iterate 3 (refine ab rfl fun K0 V => ?_; simp only [zE, op1, ev, lkp, ai, ag, aC, aB, aD, ak, az, aO, reduceCtorEq, E, D, J, S, M, O, Try.td3, Try.td4, Dfa.av]; (repeat refine And.intro (by first | omega | assumption | exact rfl) ?_); refine V _ ?_; clear V K0; simp only [put, app, aa, af, zE, zS, D])
         refine ah ?_
         refine hK57 _ ?_; clear hK57; refine ad [2, 3, 4, 6, 7, 12, 13, 15, 136] ?_; simp only [U, lkp, zE, reduceCtorEq, E, Y, D]
         refine aA (by simp only [ev, U, lkp, zE, reduceCtorEq, E, Y, D]; exact rfl) (fun hc58 => ?_) (fun hc58 => ?_)
         ·(try simp only [zB, reduceCtorEq] at hc58)
          refine aI ?_
          refine hK56 _ ?_; clear hK56; refine ad [2, 3, 4, 6, 7, 12, 13, 15, 136] ?_; simp only [U, lkp, zE, reduceCtorEq, E, Y, D]
          refine Z fun K59 hK59 => ?_
          refine aH ?_
          refine Z fun K60 hK60 => ?_
          refine Z fun K61 hK61 => ?_
          refine ae hP hN rfl ?_
          iterate 6 (refine ab rfl fun K0 V => ?_; simp only [zE, op1, ev, lkp, ai, ag, aF, zG, Ty.dflt, Ty.size, Nat.mul_one, ne_eq, not_false_eq_true, Int.natCast_one, Int.mul_one, ay, au, ax, acs, ao, aC, aB, aD, ak, az, aO, reduceCtorEq, E, D, J, S, M, O, Try.el26, Try.td26, Try.td3, Try.td4, Dfa.av]; (repeat refine And.intro (by first | omega | assumption | exact rfl) ?_); refine V _ ?_; clear V K0; simp only [put, app, aa, af, zE, zS, D])
          refine ah ?_
          refine hK61 _ ?_; clear hK61; refine ad [2, 3, 4, 6, 7, 12, 13, 15, 136, 144] ?_; simp only [U, lkp, zE, reduceCtorEq, E, Y, D]
          refine aA (by simp only [ev, U, lkp, zE, reduceCtorEq, E, Y, D]; exact rfl) (fun hc62 => ?_) (fun hc62 => ?_)
          ·(try simp only [zB, reduceCtorEq] at hc62)
           have hy : ¬ (rC t).getD p 0 = (p : Int) := hc62
           refine bg ?_
           refine hK59 _ ?_; clear hK59; refine ad [2, 3, 4, 6, 7, 12, 13, 15, 136, 144] ?_; simp only [U, lkp, zE, reduceCtorEq, E, Y, D]
           first | (refine cK (n := 7) (L1 := [_, _, _, _, _, _, _]) rfl rfl (by rw [hB]; decide) rfl rfl ?_) | skip
           refine ae hP hN rfl ?_
           iterate 3 (refine ab rfl fun K0 V => ?_; simp only [zE, op1, ev, lkp, ai, ag, aC, aB, aD, ak, az, aO, reduceCtorEq, E, D, J, S, M, O, Try.td3, Dfa.av]; (repeat refine And.intro (by first | omega | assumption | exact rfl) ?_); refine V _ ?_; clear V K0; simp only [put, app, aa, af, zE, zS, D])
           refine ah ?_
           first
           | (refine ⟨_, _, ?_, aE [2, 3, 4, 6, 7, 12, 13, 15], p + 1, u + 1, by omega, rfl, ?_⟩
              · omega
              · rw [eP hy, List.map_append]; rfl)
           | (refine ⟨_, _, ?_, aE [2, 3, 4, 6, 7, 12, 13, 15], p + 1, u, by omega, rfl, ?_⟩
              · omega
              · rw [gE hy]; rfl)
          ·(try simp only [zB, reduceCtorEq] at hc62)
           have hy : (rC t).getD p 0 = (p : Int) := hc62
           refine aI ?_
           refine hK60 _ ?_; clear hK60; refine ad [2, 3, 4, 6, 7, 12, 13, 15, 136, 144] ?_; simp only [U, lkp, zE, reduceCtorEq, E, Y, D]
           refine Z fun K63 hK63 => ?_
           refine ae hP hN rfl ?_
           (refine ab rfl fun K0 V => ?_; simp only [zE, op1, ev, lkp, ai, ag, ev, reduceCtorEq, E, D, J, S, M, O, Try.el26, Try.td26, Dfa.av]; refine V _ ?_; clear V K0; simp only [put, app, aa, af, zE, zS, D])
           refine ah ?_
           refine hK63 _ ?_; clear hK63; refine ad [2, 3, 4, 6, 7, 12, 13, 15, 16, 136, 144] ?_; simp only [U, lkp, zE, reduceCtorEq, E, Y, D]
           refine Z fun K64 hK64 => ?_
           refine Z fun K65 hK65 => ?_
           refine ae hP hN rfl ?_
           (refine ab rfl fun K0 V => ?_; simp only [zE, op1, ev, lkp, ai, ag, ev, reduceCtorEq, E, D, J, S, M, O, Try.td3, Dfa.av]; refine V _ ?_; clear V K0; simp only [put, app, aa, af, zE, zS, D])
           refine ah ?_
           refine hK65 _ ?_; clear hK65; refine ad [2, 3, 4, 6, 7, 12, 13, 15, 16, 17, 136, 144] ?_; simp only [U, lkp, zE, reduceCtorEq, E, Y, D]
           refine aH ?_
           refine fx 16 (.int .i64) 3 (by decide) rfl ?_; simp only [List.length_cons, List.length_nil, List.cons_append, List.nil_append, Nat.zero_add, D]
           refine bj (fun n66 s66 => ∃ (a : Nat) (w : Nat), ((a : Int) ≤ t.inp) ∧ n66 = t.inp.toNat - a ∧ s66 = { env := [(2, .one (.ptr 1 0 0 0)), (3, .one (.int .i64 0)), (4, .one (.ptr 2 0 0 0)), (6, .one (.int .i64 (t.nx.length : Int))), (7, .one (.list (.int .i64) (rC t))), (12, .one (.ptr 3 0 0 0)), (13, .one (.list (.int .i64) (nmL (rC t) t.nx.length))), (15, .one (.int .i64 (p : Int))), (16, .one (.row 7 w)), (17, .one (.int .i64 (a : Int)))], L := [.vars 25 [.int .i64 d.inp, .int .i64 d.st, .list (.list (.int .i64)) d.nx, .list .bool d.acc], .vars 25 [.int .i64 0, .int .i64 0, .nils, .nils], .vars 25 [.int .i64 t.inp, .int .i64 t.st, .list (.list (.int .i64)) t.nx, .list .bool t.acc], .vars 25 [.int .i64 t.inp, .int .i64 0, .row 6 u, .row 5 v], .dead 0, .row .bool 4 v ((ffR (rC t) t.nx.length).map fun q => t.acc.getD q false), .row (.list (.int .i64)) 26 u ((ffR (rC t) p).map fun q => rwM t (rC t) q t.inp.toNat), .row (.int .i64) 3 w (rwM t (rC t) p a)] }) ?_ ?_
           ·exact ⟨_, _, aE [2, 3, 4, 6, 7, 12, 13, 15, 16, 17], 0, 0, by omega, rfl, rfl⟩
           ·rintro n66 s66 ⟨a, w, ha, rfl, rfl⟩
            refine Z fun K67 hK67 => ?_
            refine Z fun K68 hK68 => ?_
            refine ae hP hN rfl ?_
            iterate 4 (refine ab rfl fun K0 V => ?_; simp only [zE, op1, ev, lkp, ai, ag, aw, ay, Nat.mul_one, au, ax, acs, Ty.dflt, zG, ao, aC, aB, aD, ak, az, aO, reduceCtorEq, E, D, J, S, M, O, Try.st25, Try.td25, Try.td3, Try.td4, Dfa.av]; (repeat refine And.intro (by first | omega | assumption | exact rfl) ?_); refine V _ ?_; clear V K0; simp only [put, app, aa, af, zE, zS, D])
            refine ah ?_
            refine hK68 _ ?_; clear hK68; refine ad [2, 3, 4, 6, 7, 12, 13, 15, 16, 17, 148] ?_; simp only [U, lkp, zE, reduceCtorEq, E, Y, D]
            refine aA (by simp only [ev, U, lkp, zE, reduceCtorEq, E, Y, D]; exact rfl) (fun hc69 => ?_) (fun hc69 => ?_)
            ·(try simp only [zB, reduceCtorEq] at hc69)
             refine aI ?_
             refine hK67 _ ?_; clear hK67; refine ad [2, 3, 4, 6, 7, 12, 13, 15, 16, 17, 148] ?_; simp only [U, lkp, zE, reduceCtorEq, E, Y, D]
             refine Z fun K70 hK70 => ?_
             refine aH ?_
             have hrl9 : ((t.nx.getD p []).length : Int) = t.inp := ht.rl p (by omega)
             have hcl9 : 0 ≤ (t.nx.getD p []).getD a 0 ∧ (t.nx.getD p []).getD a 0 < t.nx.length := ht.cl p a (by omega) (by omega)
             have hrg9 := hK.rg ((t.nx.getD p []).getD a 0).toNat (by omega)
             have hnl9 := sF (rC t) t.nx.length
             refine ae hP hN rfl ?_
             iterate 18 (refine ab rfl fun K0 V => ?_; simp only [zE, op1, ev, lkp, ai, ag, aw, ay, Nat.mul_one, au, ax, acs, Ty.dflt, zG, ao, aF, Ty.size, ne_eq, not_false_eq_true, Int.natCast_one, Int.mul_one, aZ, aW, bW, rep, aM, aN, am, aK, br, bf, aY, b0, bn, Nat.div_one, aP, ba, dite_true, reduceCtorEq, E, D, J, S, M, O, Try.el22, Try.el26, Try.st25, Try.td1, Try.td2, Try.td22, Try.td25, Try.td26, Try.td3, Dfa.av, kh, Int.toNat_natCast]; (repeat refine And.intro (by first | omega | assumption | exact rfl) ?_); (first | refine V _ ?_ | refine Or.inl (V _ ?_)); clear V K0; simp only [put, app, aa, af, zE, zS, D])
             refine ah ?_
             refine hK70 _ ?_; clear hK70; refine ad [2, 3, 4, 6, 7, 12, 13, 15, 16, 17, 148] ?_; simp only [U, lkp, zE, reduceCtorEq, E, Y, D]
             refine ae hP hN rfl ?_
             iterate 3 (refine ab rfl fun K0 V => ?_; simp only [zE, op1, ev, lkp, ai, ag, aC, aB, aD, ak, az, aO, reduceCtorEq, E, D, J, S, M, O, Try.td3, Dfa.av]; (repeat refine And.intro (by first | omega | assumption | exact rfl) ?_); refine V _ ?_; clear V K0; simp only [put, app, aa, af, zE, zS, D])
             refine ah ?_
             refine ⟨_, _, ?_, aE [2, 3, 4, 6, 7, 12, 13, 15, 16, 17], a + 1, w + 1, by omega, rfl, ?_⟩
             · omega
             · rw [pO]; rfl
            ·(try simp only [zB, reduceCtorEq] at hc69)
             refine bg ?_
             refine hK64 _ ?_; clear hK64; refine ad [2, 3, 4, 6, 7, 12, 13, 15, 16, 17, 148] ?_; simp only [U, lkp, zE, reduceCtorEq, E, Y, D]
             refine cD 7 rfl ?_; simp only [List.map_cons, List.map_nil, zS, E, and_self, and_true, true_and, and_false, false_and, if_true, if_false, eq_self, reduceCtorEq, Nat.one_ne_zero, Nat.zero_ne_one]
             have han : a = t.inp.toNat := by omega
             subst han
             have hfp := mu (rC t) p
             refine ae hP hN rfl ?_
             iterate 7 (refine ab rfl fun K0 V => ?_; simp only [zE, op1, ev, lkp, ai, ag, aw, ay, Nat.mul_one, au, ax, acs, Ty.dflt, zG, ao, aZ, aW, bW, rep, aM, aN, am, Ty.size, aK, br, bf, aY, b0, bn, Nat.div_one, aP, ba, dite_true, aX, reduceCtorEq, E, D, J, S, M, O, Try.el22, Try.el26, Try.st25, Try.td1, Try.td2, Try.td22, Try.td25, Try.td26, Dfa.av, List.length_map]; (repeat refine And.intro (by first | omega | assumption | exact rfl) ?_); (first | refine V _ ?_ | refine Or.inl (V _ ?_)); clear V K0; simp only [put, app, aa, af, zE, zS, D])
             refine ah ?_
             refine hK59 _ ?_; clear hK59; refine ad [2, 3, 4, 6, 7, 12, 13, 15, 16, 17, 148] ?_; simp only [U, lkp, zE, reduceCtorEq, E, Y, D]
             first | (refine cK (n := 7) (L1 := [_, _, _, _, _, _, _]) rfl rfl (by rw [hB]; decide) rfl rfl ?_) | skip
             refine ae hP hN rfl ?_
             iterate 3 (refine ab rfl fun K0 V => ?_; simp only [zE, op1, ev, lkp, ai, ag, aC, aB, aD, ak, az, aO, reduceCtorEq, E, D, J, S, M, O, Try.td3, Dfa.av]; (repeat refine And.intro (by first | omega | assumption | exact rfl) ?_); refine V _ ?_; clear V K0; simp only [put, app, aa, af, zE, zS, D])
             refine ah ?_
             first
             | (refine ⟨_, _, ?_, aE [2, 3, 4, 6, 7, 12, 13, 15], p + 1, u + 1, by omega, rfl, ?_⟩
                · omega
                · rw [eP hy, List.map_append]; rfl)
             | (refine ⟨_, _, ?_, aE [2, 3, 4, 6, 7, 12, 13, 15], p + 1, u, by omega, rfl, ?_⟩
                · omega
                · rw [gE hy]; rfl)
         ·(try simp only [zB, reduceCtorEq] at hc58)
          refine bg ?_
          refine hK53 _ ?_; clear hK53; refine ad [2, 3, 4, 6, 7, 12, 13, 15, 136] ?_; simp only [U, lkp, zE, reduceCtorEq, E, Y, D]
          refine Z fun K71 hK71 => ?_
          refine cm 5 3 rfl rfl ?_; simp only [List.map_cons, List.map_nil, frC, zS, E, and_self, and_true, true_and, and_false, false_and, if_true, if_false, eq_self, reduceCtorEq, Nat.one_ne_zero, Nat.zero_ne_one]
          refine cm 6 3 rfl rfl ?_; simp only [List.map_cons, List.map_nil, frC, zS, E, and_self, and_true, true_and, and_false, false_and, if_true, if_false, eq_self, reduceCtorEq, Nat.one_ne_zero, Nat.zero_ne_one]
          have hpn : p = t.nx.length := by omega
          rw [hpn]
          refine ae hP hN rfl ?_
          iterate 3 (refine ab rfl fun K0 V => ?_; simp only [zE, op1, ev, lkp, ai, ag, ay, Nat.mul_one, au, ax, acs, Ty.dflt, zG, ao, aX, am, aN, aM, Ty.size, reduceCtorEq, E, D, J, S, M, O, Try.st25, Try.td25, Try.td3, Dfa.av]; (repeat refine And.intro (by first | omega | assumption | exact rfl) ?_); refine V _ ?_; clear V K0; simp only [put, app, aa, af, zE, zS, D])
          refine ah ?_
          refine hK71 _ ?_; clear hK71; refine ad [2, 3, 4, 6, 7, 12, 13, 15, 136] ?_; simp only [U, lkp, zE, reduceCtorEq, E, Y, D]
          refine aJ ?_
          refine ⟨by first | exact .inl rfl | exact .inr rfl, _, rfl, ?_⟩; simp only [fzV, fz1, fzC, List.map_cons, List.map_nil, U, lkp, zE, reduceCtorEq, E, Y, D, Dfa.av]
          first
          | (have e1 : gK d = cJ := if_neg hbad
             rw [e1, kr hbad]; exact bC ⟨bB ⟨.refl _, .refl _, aQ rfl, aQ rfl, trivial⟩, bp (.refl _), trivial⟩)
          | (rw [hM, hv]; exact VLE.of_eq rfl)
end Go.Proofs.Ytdkgcbhbpdbmnaa
namespace Go.Proofs.Ytdkgcbhbpdbmnaa
open Go Go.AV
open Nat renaming reduceEqDiff → E, reduceAdd → D, reduceLeDiff → J, reduceLT → S, reduceMul → M, reduceSub → O
open List renaming set_cons_zero → ar, set_cons_succ → aq
theorem sD (d : Dfa) : bH Try.prog 27 [d.av] (.tup [(fa d).av, .one (.int .i64 (bc d))]) := by
  rw [← oB]; exact tc d

end Go.Proofs.Ytdkgcbhbpdbmnaa
namespace Go.Proofs.Ytdkgcbhbpdbmnaa
open Go Go.AV
open Nat renaming reduceEqDiff → E, reduceAdd → D, reduceLeDiff → J, reduceLT → S, reduceMul → M, reduceSub → O
open List renaming set_cons_zero → ar, set_cons_succ → aq
end Go.Proofs.Ytdkgcbhbpdbmnaa
namespace Go.Proofs.Ytdkgcbhbpdbmnaa
open Go Go.AV
open Nat renaming reduceEqDiff → E, reduceAdd → D, reduceLeDiff → J, reduceLT → S, reduceMul → M, reduceSub → O
open List renaming set_cons_zero → ar, set_cons_succ → aq
set_option maxRecDepth 100000 in
theorem tt (d : Dfa) (n : Int) : bH Try.prog 5 [d.av, .one (.int .i64 n)] (.one (.bool true)) := by
 refine aR Try.func5 rfl (by kernel_rfl) (Nat.le_of_ble_eq_true rfl) rfl fun C hP hN hB => ?_
 replace hN : C.N = 67 := hN
 simp only [Y, D]
 refine Z fun K1 hK1 => ?_
 refine ae hP hN rfl ?_
 iterate 2 (refine ab rfl fun K0 V => ?_; simp only [zE, op1, ev, lkp, ai, ag, ch, am, reduceCtorEq, E, D, J, S, M, O, Try.st25, Try.td25, Try.td4, Dfa.av]; (repeat refine And.intro (by first | omega | assumption | exact rfl) ?_); refine V _ ?_; clear V K0; simp only [put, app, aa, af, zE, zS, D])
 refine ah ?_
 refine hK1 _ ?_; clear hK1; refine ad [0, 1, 2, 4] ?_; simp only [U, lkp, zE, reduceCtorEq, E, Y, D]
 refine Z fun K2 hK2 => ?_
 refine Z fun K3 hK3 => ?_
 refine ae hP hN rfl ?_
 (refine ab rfl fun K0 V => ?_; simp only [zE, op1, ev, lkp, ai, ag, ay, Nat.mul_one, au, ax, acs, Ty.dflt, zG, ao, reduceCtorEq, E, D, J, S, M, O, Try.st25, Try.td25, Dfa.av]; (repeat refine And.intro (by first | omega | assumption | exact rfl) ?_); refine V _ ?_; clear V K0; simp only [put, app, aa, af, zE, zS, D])
 refine ab rfl fun K0 V => ?_
 refine aS (h := aG (qN d)) rfl rfl (by first | exact rfl | (simp only [ev, U, lkp, zE, reduceCtorEq, E, Y, D]; exact rfl)) (by simp only [zE, zG, op1, ev, lkp, ai, ag, am, acs, be, mv1, mvC, Ty.dflt, reduceCtorEq, E, D, J, S, M, O, Dfa.av]) ?_
 refine V _ ?_; clear V K0; simp only [put, app, aa, af, zE, zS, D]
 (refine ab rfl fun K0 V => ?_; simp only [zE, op1, ev, lkp, ai, ag, ev, reduceCtorEq, E, D, J, S, M, O, Try.td4, Dfa.av]; refine V _ ?_; clear V K0; simp only [put, app, aa, af, zE, zS, D])
 refine' aU (want := false) 6 rfl (m := 15) (by simp only [U, lkp, zE, reduceCtorEq, E, Y, D]; exact rfl) (by kernel_rfl) rfl rfl rfl rfl rfl (fun hg4 => ?a4) ?b4 ?c4
 case a4 =>
  have hq4 := hg4; (try simp only [zB, reduceCtorEq] at hg4); simp only [List.take_succ_cons, List.take_zero, List.cons_append, List.nil_append]
  (refine aL rfl fun K0 V => ?_; simp only [zE, op1, ev, lkp, ai, ag, ev, reduceCtorEq, E, D, J, S, M, O, Try.td3, Dfa.av]; refine V _ ?_; clear V K0; simp only [put, app, aa, af, zE, zS, D])
  (refine aL rfl fun K0 V => ?_; simp only [zE, op1, ev, lkp, ai, ag, aC, aB, aD, ak, az, aO, reduceCtorEq, E, D, J, S, M, O, Try.td3, Try.td4, Dfa.av]; (repeat refine And.intro (by first | omega | assumption | exact rfl) ?_); refine V _ ?_; clear V K0; simp only [put, app, aa, af, zE, zS, D])
  (refine aL rfl fun K0 V => ?_; simp only [zE, op1, ev, lkp, ai, ag, ev, reduceCtorEq, E, D, J, S, M, O, Try.td4, Dfa.av]; refine V _ ?_; clear V K0; simp only [put, app, aa, af, zE, zS, D])
  refine' aU (want := true) 2 rfl (m := 18) (by simp only [U, lkp, zE, reduceCtorEq, E, Y, D]; exact rfl) (by kernel_rfl) rfl rfl rfl rfl rfl (fun hg5 => ?a5) ?b5 ?c5
  case a5 =>
   have hq5 := hg5; (try simp only [zB, reduceCtorEq] at hg5); simp only [List.take_succ_cons, List.take_zero, List.cons_append, List.nil_append]
   (refine aL rfl fun K0 V => ?_; simp only [zE, op1, ev, lkp, ai, ag, ev, reduceCtorEq, E, D, J, S, M, O, Try.td3, Dfa.av]; refine V _ ?_; clear V K0; simp only [put, app, aa, af, zE, zS, D])
   (refine aL rfl fun K0 V => ?_; simp only [zE, op1, ev, lkp, ai, ag, aC, aB, aD, ak, az, aO, reduceCtorEq, E, D, J, S, M, O, Try.td3, Try.td4, Dfa.av]; (repeat refine And.intro (by first | omega | assumption | exact rfl) ?_); refine V _ ?_; clear V K0; simp only [put, app, aa, af, zE, zS, D])
   (refine aL rfl fun K0 V => ?_; simp only [zE, op1, ev, lkp, ai, ag, bq, reduceCtorEq, E, D, J, S, M, O, Try.td4, Dfa.av]; refine V _ ?_; clear V K0; simp only [put, app, aa, af, zE, zS, D])
   refine ah ?_
   refine ⟨by simp only [U, lkp, zE, reduceCtorEq, E, Y, D]; exact rfl, rfl, ?_, rfl⟩; (repeat refine aV rfl ?_); exact bu (by exact rfl) hq5
  case b5 => exact bt (by first | rfl | (simp [c0]; done) | decide)
  simp only [bm, bb]
  (refine ab rfl fun K0 V => ?_; simp only [zE, op1, ev, lkp, ai, ag, bq, reduceCtorEq, E, D, J, S, M, O, Try.td4, Dfa.av]; refine V _ ?_; clear V K0; simp only [put, app, aa, af, zE, zS, D])
  refine ah ?_
  refine ⟨by simp only [U, lkp, zE, reduceCtorEq, E, Y, D]; exact rfl, rfl, ?_, rfl⟩; (repeat refine aV rfl ?_); exact bu (by exact rfl) hq4
 case b4 => exact bt (by first | rfl | (simp [c0]; done) | decide)
 simp only [bm, bb]
 refine ah ?_
 refine hK3 _ ?_; clear hK3; refine ad [0, 1, 2, 4, 22] ?_; simp only [U, lkp, zE, reduceCtorEq, E, Y, D]
 refine aA (by simp only [ev, U, lkp, zE, reduceCtorEq, E, Y, D]; exact rfl) (fun hc6 => ?_) (fun hc6 => ?_)
 ·(try simp only [zB, reduceCtorEq] at hc6)
  refine Z fun K7 hK7 => ?_
  refine ae hP hN rfl ?_
  refine ab rfl fun K0 V => ?_
  refine aS (h := aG kW) rfl rfl (by first | exact rfl | (simp only [ev, U, lkp, zE, reduceCtorEq, E, Y, D]; exact rfl)) (by simp only [zE, zG, op1, ev, lkp, ai, ag, am, acs, be, mv1, mvC, Ty.dflt, reduceCtorEq, E, D, J, S, M, O, Dfa.av]) ?_
  refine V _ ?_; clear V K0; simp only [put, app, aa, af, zE, zS, D]
  (refine ab rfl fun K0 V => ?_; simp only [zE, op1, ev, lkp, ai, ag, ev, reduceCtorEq, E, D, J, S, M, O, Try.td4, Dfa.av]; refine V _ ?_; clear V K0; simp only [put, app, aa, af, zE, zS, D])
  refine ah ?_
  refine hK7 _ ?_; clear hK7; refine ad [0, 1, 2, 4, 22] ?_; simp only [U, lkp, zE, reduceCtorEq, E, Y, D]
  refine aJ ?_
  refine ⟨by first | exact .inl rfl | exact .inr rfl, _, rfl, ?_⟩; simp only [fzV, fz1, fzC, List.map_cons, List.map_nil, U, lkp, zE, reduceCtorEq, E, Y, D, Dfa.av]
  refine VLE.of_eq ?_
  first | rfl | (refine congrArg (fun b => AV.one (AC.bool b)) ?_; simp [jo, o9]; done)
 ·(try simp only [zB, reduceCtorEq] at hc6)
  refine aI ?_
  refine hK2 _ ?_; clear hK2; refine ad [0, 1, 2, 4, 22] ?_; simp only [U, lkp, zE, reduceCtorEq, E, Y, D]
  refine Z fun K8 hK8 => ?_
  refine ae hP hN rfl ?_
  (refine ab rfl fun K0 V => ?_; simp only [zE, op1, ev, lkp, ai, ag, ay, Nat.mul_one, au, ax, acs, Ty.dflt, zG, ao, reduceCtorEq, E, D, J, S, M, O, Try.st25, Try.td25, Dfa.av]; (repeat refine And.intro (by first | omega | assumption | exact rfl) ?_); refine V _ ?_; clear V K0; simp only [put, app, aa, af, zE, zS, D])
  refine ab rfl fun K0 V => ?_
  refine aS (h := aG (pa d)) rfl rfl (by first | exact rfl | (simp only [ev, U, lkp, zE, reduceCtorEq, E, Y, D]; exact rfl)) (by simp only [zE, zG, op1, ev, lkp, ai, ag, am, acs, be, mv1, mvC, Ty.dflt, reduceCtorEq, E, D, J, S, M, O, Dfa.av]) ?_
  refine V _ ?_; clear V K0; simp only [put, app, aa, af, zE, zS, D]
  iterate 6 (refine ab rfl fun K0 V => ?_; simp only [zE, op1, ev, lkp, ai, ag, bJ, bI, aX, Nat.mul_one, am, aN, aM, acs, Ty.size, Ty.dflt, zG, reduceCtorEq, E, D, J, S, M, O, Try.st25, Try.td1, Try.td25, Try.td29, Dfa.av]; (repeat refine And.intro (by first | omega | assumption | exact rfl) ?_); (first | refine V _ ?_ | refine Or.inl (V _ ?_)); clear V K0; simp only [put, app, aa, af, zE, zS, D])
  refine ah ?_
  refine hK8 _ ?_; clear hK8; refine ad [0, 1, 2, 4, 5, 6, 22] ?_; simp only [U, lkp, zE, reduceCtorEq, E, Y, D]
  refine Z fun K9 hK9 => ?_
  refine ae hP hN rfl ?_
  (refine ab rfl fun K0 V => ?_; simp only [zE, op1, ev, lkp, ai, ag, ay, Nat.mul_one, au, ax, acs, Ty.dflt, zG, ao, reduceCtorEq, E, D, J, S, M, O, Try.st25, Try.td25, Dfa.av]; (repeat refine And.intro (by first | omega | assumption | exact rfl) ?_); refine V _ ?_; clear V K0; simp only [put, app, aa, af, zE, zS, D])
  refine ab rfl fun K0 V => ?_
  refine aS (h := aG (sD d)) rfl rfl (by first | exact rfl | (simp only [ev, U, lkp, zE, reduceCtorEq, E, Y, D]; exact rfl)) (by simp only [zE, zG, op1, ev, lkp, ai, ag, am, acs, be, mv1, mvC, Ty.dflt, reduceCtorEq, E, D, J, S, M, O, Dfa.av]) ?_
  refine V _ ?_; clear V K0; simp only [put, app, aa, af, zE, zS, D]
  iterate 6 (refine ab rfl fun K0 V => ?_; simp only [zE, op1, ev, lkp, ai, ag, bJ, bI, aX, Nat.mul_one, am, aN, aM, acs, Ty.size, Ty.dflt, zG, reduceCtorEq, E, D, J, S, M, O, Try.st25, Try.td1, Try.td25, Try.td3, Dfa.av]; (repeat refine And.intro (by first | omega | assumption | exact rfl) ?_); (first | refine V _ ?_ | refine Or.inl (V _ ?_)); clear V K0; simp only [put, app, aa, af, zE, zS, D])
  refine ah ?_
  refine hK9 _ ?_; clear hK9; refine ad [0, 1, 2, 4, 5, 6, 7, 8, 22] ?_; simp only [U, lkp, zE, reduceCtorEq, E, Y, D]
  refine Z fun K10 hK10 => ?_
  refine ae hP hN rfl ?_
  iterate 2 (refine ab rfl fun K0 V => ?_; simp only [zE, op1, ev, lkp, ai, ag, ay, Nat.mul_one, au, ax, acs, Ty.dflt, zG, ao, reduceCtorEq, E, D, J, S, M, O, Try.st25, Try.td25, Try.td3, Dfa.av]; (repeat refine And.intro (by first | omega | assumption | exact rfl) ?_); refine V _ ?_; clear V K0; simp only [put, app, aa, af, zE, zS, D])
  refine ab rfl fun K0 V => ?_
  refine aS (h := aG (lS d n)) rfl rfl (by first | exact rfl | (simp only [ev, U, lkp, zE, reduceCtorEq, E, Y, D]; exact rfl)) (by simp only [zE, zG, op1, ev, lkp, ai, ag, am, acs, be, mv1, mvC, Ty.dflt, reduceCtorEq, E, D, J, S, M, O, Dfa.av]) ?_
  refine V _ ?_; clear V K0; simp only [put, app, aa, af, zE, zS, D]
  iterate 5 (refine ab rfl fun K0 V => ?_; simp only [zE, op1, ev, lkp, ai, ag, bJ, reduceCtorEq, E, D, J, S, M, O, Try.td1, Try.td29, Try.td3, Dfa.av]; refine V _ ?_; clear V K0; simp only [put, app, aa, af, zE, zS, D])
  refine ah ?_
  refine hK10 _ ?_; clear hK10; refine ad [0, 1, 2, 4, 5, 6, 7, 8, 9, 10, 22] ?_; simp only [U, lkp, zE, reduceCtorEq, E, Y, D]
  refine Z fun K11 hK11 => ?_
  refine ae hP hN rfl ?_
  iterate 2 (refine ab rfl fun K0 V => ?_; simp only [zE, op1, ev, lkp, ai, ag, ay, Nat.mul_one, au, ax, acs, Ty.dflt, zG, ao, reduceCtorEq, E, D, J, S, M, O, Try.st25, Try.td25, Try.td3, Dfa.av]; (repeat refine And.intro (by first | omega | assumption | exact rfl) ?_); refine V _ ?_; clear V K0; simp only [put, app, aa, af, zE, zS, D])
  refine ab rfl fun K0 V => ?_
  refine aS (h := aG (oY d n)) rfl rfl (by first | exact rfl | (simp only [ev, U, lkp, zE, reduceCtorEq, E, Y, D]; exact rfl)) (by simp only [zE, zG, op1, ev, lkp, ai, ag, am, acs, be, mv1, mvC, Ty.dflt, reduceCtorEq, E, D, J, S, M, O, Dfa.av]) ?_
  refine V _ ?_; clear V K0; simp only [put, app, aa, af, zE, zS, D]
  iterate 5 (refine ab rfl fun K0 V => ?_; simp only [zE, op1, ev, lkp, ai, ag, bJ, reduceCtorEq, E, D, J, S, M, O, Try.td1, Try.td3, Dfa.av]; refine V _ ?_; clear V K0; simp only [put, app, aa, af, zE, zS, D])
  refine ah ?_
  refine hK11 _ ?_; clear hK11; refine ad [0, 1, 2, 4, 5, 6, 7, 8, 9, 10, 11, 12, 22] ?_; simp only [U, lkp, zE, reduceCtorEq, E, Y, D]
  refine Z fun K12 hK12 => ?_
  refine ae hP hN rfl ?_
  iterate 2 (refine ab rfl fun K0 V => ?_; simp only [zE, op1, ev, lkp, ai, ag, ay, Nat.mul_one, au, ax, acs, Ty.dflt, zG, ao, reduceCtorEq, E, D, J, S, M, O, Try.st25, Try.td25, Dfa.av]; (repeat refine And.intro (by first | omega | assumption | exact rfl) ?_); refine V _ ?_; clear V K0; simp only [put, app, aa, af, zE, zS, D])
  refine ab rfl fun K0 V => ?_
  refine aS (h := aG (kR (fa d) (fa d) (sn d))) rfl rfl (by first | exact rfl | (simp only [ev, U, lkp, zE, reduceCtorEq, E, Y, D]; exact rfl)) (by simp only [zE, zG, op1, ev, lkp, ai, ag, am, acs, be, mv1, mvC, Ty.dflt, reduceCtorEq, E, D, J, S, M, O, Dfa.av]) ?_
  refine V _ ?_; clear V K0; simp only [put, app, aa, af, zE, zS, D]
  (refine ab rfl fun K0 V => ?_; simp only [zE, op1, ev, lkp, ai, ag, ev, reduceCtorEq, E, D, J, S, M, O, Try.td4, Dfa.av]; refine V _ ?_; clear V K0; simp only [put, app, aa, af, zE, zS, D])
  refine' aU (want := true) 3 rfl (m := 49) (by simp only [U, lkp, zE, reduceCtorEq, E, Y, D]; exact rfl) (by kernel_rfl) rfl rfl rfl rfl rfl (fun hg13 => ?a13) ?b13 ?c13
  case a13 =>
   have hq13 := hg13; (try simp only [zB, reduceCtorEq] at hg13); simp only [List.take_succ_cons, List.take_zero, List.cons_append, List.nil_append]
   (refine aL rfl fun K0 V => ?_; simp only [zE, op1, ev, lkp, ai, ag, ev, reduceCtorEq, E, D, J, S, M, O, Try.td29, Dfa.av]; refine V _ ?_; clear V K0; simp only [put, app, aa, af, zE, zS, D])
   (refine aL rfl fun K0 V => ?_; simp only [zE, op1, ev, lkp, ai, ag, ev, reduceCtorEq, E, D, J, S, M, O, Try.td3, Dfa.av]; refine V _ ?_; clear V K0; simp only [put, app, aa, af, zE, zS, D])
   (refine aL rfl fun K0 V => ?_; simp only [zE, op1, ev, lkp, ai, ag, aC, aB, aD, ak, az, aO, reduceCtorEq, E, D, J, S, M, O, Try.td3, Try.td4, Dfa.av]; (repeat refine And.intro (by first | omega | assumption | exact rfl) ?_); refine V _ ?_; clear V K0; simp only [put, app, aa, af, zE, zS, D])
   (refine ab rfl fun K0 V => ?_; simp only [zE, op1, ev, lkp, ai, ag, bq, reduceCtorEq, E, D, J, S, M, O, Try.td4, Dfa.av]; refine V _ ?_; clear V K0; simp only [put, app, aa, af, zE, zS, D])
   refine ah ?_
   refine ⟨by simp only [U, lkp, zE, reduceCtorEq, E, Y, D]; exact rfl, rfl, ?_, rfl⟩; (repeat refine aV rfl ?_); exact bu (by exact rfl) hq13
  case b13 => exact bt (by first | rfl | (simp [c0]; done) | decide)
  simp only [bm, bb]
  (refine ab rfl fun K0 V => ?_; simp only [zE, op1, ev, lkp, ai, ag, ev, reduceCtorEq, E, D, J, S, M, O, Try.td4, Dfa.av]; refine V _ ?_; clear V K0; simp only [put, app, aa, af, zE, zS, D])
  refine' aU (want := true) 3 rfl (m := 54) (by simp only [U, lkp, zE, reduceCtorEq, E, Y, D]; exact rfl) (by kernel_rfl) rfl rfl rfl rfl rfl (fun hg14 => ?a14) ?b14 ?c14
  case a14 =>
   have hq14 := hg14; (try simp only [zB, reduceCtorEq] at hg14); simp only [List.take_succ_cons, List.take_zero, List.cons_append, List.nil_append]
   (refine aL rfl fun K0 V => ?_; simp only [zE, op1, ev, lkp, ai, ag, ev, reduceCtorEq, E, D, J, S, M, O, Try.td3, Dfa.av]; refine V _ ?_; clear V K0; simp only [put, app, aa, af, zE, zS, D])
   (refine aL rfl fun K0 V => ?_; simp only [zE, op1, ev, lkp, ai, ag, ev, reduceCtorEq, E, D, J, S, M, O, Try.td3, Dfa.av]; refine V _ ?_; clear V K0; simp only [put, app, aa, af, zE, zS, D])
   (refine aL rfl fun K0 V => ?_; simp only [zE, op1, ev, lkp, ai, ag, aC, aB, aD, ak, az, aO, reduceCtorEq, E, D, J, S, M, O, Try.td3, Try.td4, Dfa.av]; (repeat refine And.intro (by first | omega | assumption | exact rfl) ?_); refine V _ ?_; clear V K0; simp only [put, app, aa, af, zE, zS, D])
   (refine ab rfl fun K0 V => ?_; simp only [zE, op1, ev, lkp, ai, ag, bq, reduceCtorEq, E, D, J, S, M, O, Try.td4, Dfa.av]; refine V _ ?_; clear V K0; simp only [put, app, aa, af, zE, zS, D])
   refine ah ?_
   refine ⟨by simp only [U, lkp, zE, reduceCtorEq, E, Y, D]; exact rfl, rfl, ?_, rfl⟩; (repeat refine aV rfl ?_); exact bu (by exact rfl) hq14
  case b14 => exact bt (by first | rfl | (simp [c0]; done) | decide)
  simp only [bm, bb]
  (refine ab rfl fun K0 V => ?_; simp only [zE, op1, ev, lkp, ai, ag, ev, reduceCtorEq, E, D, J, S, M, O, Try.td4, Dfa.av]; refine V _ ?_; clear V K0; simp only [put, app, aa, af, zE, zS, D])
  refine' aU (want := true) 3 rfl (m := 59) (by simp only [U, lkp, zE, reduceCtorEq, E, Y, D]; exact rfl) (by kernel_rfl) rfl rfl rfl rfl rfl (fun hg15 => ?a15) ?b15 ?c15
  case a15 =>
   have hq15 := hg15; (try simp only [zB, reduceCtorEq] at hg15); simp only [List.take_succ_cons, List.take_zero, List.cons_append, List.nil_append]
   (refine aL rfl fun K0 V => ?_; simp only [zE, op1, ev, lkp, ai, ag, ev, reduceCtorEq, E, D, J, S, M, O, Try.td29, Dfa.av]; refine V _ ?_; clear V K0; simp only [put, app, aa, af, zE, zS, D])
   (refine aL rfl fun K0 V => ?_; simp only [zE, op1, ev, lkp, ai, ag, ev, reduceCtorEq, E, D, J, S, M, O, Try.td3, Dfa.av]; refine V _ ?_; clear V K0; simp only [put, app, aa, af, zE, zS, D])
   (refine aL rfl fun K0 V => ?_; simp only [zE, op1, ev, lkp, ai, ag, aC, aB, aD, ak, az, aO, reduceCtorEq, E, D, J, S, M, O, Try.td3, Try.td4, Dfa.av]; (repeat refine And.intro (by first | omega | assumption | exact rfl) ?_); refine V _ ?_; clear V K0; simp only [put, app, aa, af, zE, zS, D])
   (refine ab rfl fun K0 V => ?_; simp only [zE, op1, ev, lkp, ai, ag, bq, reduceCtorEq, E, D, J, S, M, O, Try.td4, Dfa.av]; refine V _ ?_; clear V K0; simp only [put, app, aa, af, zE, zS, D])
   refine ah ?_
   refine ⟨by simp only [U, lkp, zE, reduceCtorEq, E, Y, D]; exact rfl, rfl, ?_, rfl⟩; (repeat refine aV rfl ?_); exact bu (by exact rfl) hq15
  case b15 => exact bt (by first | rfl | (simp [c0]; done) | decide)
  simp only [bm, bb]
  (refine ab rfl fun K0 V => ?_; simp only [zE, op1, ev, lkp, ai, ag, ev, reduceCtorEq, E, D, J, S, M, O, Try.td4, Dfa.av]; refine V _ ?_; clear V K0; simp only [put, app, aa, af, zE, zS, D])
  refine' aU (want := true) 1 rfl (m := 64) (by simp only [U, lkp, zE, reduceCtorEq, E, Y, D]; exact rfl) (by kernel_rfl) rfl rfl rfl rfl rfl (fun hg16 => ?a16) ?b16 ?c16
  case a16 =>
   have hq16 := hg16; (try simp only [zB, reduceCtorEq] at hg16); simp only [List.take_succ_cons, List.take_zero, List.cons_append, List.nil_append]
   refine aL rfl fun K0 V => ?_
   refine aS (h := aG kW) rfl rfl (by first | exact rfl | (simp only [ev, U, lkp, zE, reduceCtorEq, E, Y, D]; exact rfl)) (by simp only [zE, zG, op1, ev, lkp, ai, ag, am, acs, be, mv1, mvC, Ty.dflt, reduceCtorEq, E, D, J, S, M, O, Dfa.av]) ?_
   refine V _ ?_; clear V K0; simp only [put, app, aa, af, zE, zS, D]
   (refine ab rfl fun K0 V => ?_; simp only [zE, op1, ev, lkp, ai, ag, bq, reduceCtorEq, E, D, J, S, M, O, Try.td4, Dfa.av]; refine V _ ?_; clear V K0; simp only [put, app, aa, af, zE, zS, D])
   refine ah ?_
   refine ⟨by simp only [U, lkp, zE, reduceCtorEq, E, Y, D]; exact rfl, rfl, ?_, rfl⟩; (repeat refine aV rfl ?_); exact bu (by exact rfl) hq16
  case b16 => exact bt (by first | rfl | (simp [c0]; done) | decide)
  simp only [bm, bb]
  (refine ab rfl fun K0 V => ?_; simp only [zE, op1, ev, lkp, ai, ag, ev, reduceCtorEq, E, D, J, S, M, O, Try.td4, Dfa.av]; refine V _ ?_; clear V K0; simp only [put, app, aa, af, zE, zS, D])
  refine ah ?_
  refine hK12 _ ?_; clear hK12; refine ad [0, 1, 2, 4, 5, 6, 7, 8, 9, 10, 11, 12, 22] ?_; simp only [U, lkp, zE, reduceCtorEq, E, Y, D]
  refine aJ ?_
  refine ⟨by first | exact .inl rfl | exact .inr rfl, _, rfl, ?_⟩; simp only [fzV, fz1, fzC, List.map_cons, List.map_nil, U, lkp, zE, reduceCtorEq, E, Y, D, Dfa.av]
  refine VLE.of_eq ?_
  first | rfl | (refine congrArg (fun b => AV.one (AC.bool b)) ?_; simp [jo, o9]; done)
end Go.Proofs.Ytdkgcbhbpdbmnaa
