/- Contracts of functions of this seat, each out of a walk through its code, and plain facts on what they compute. Conditions: those that each theorem names. -/
import Derived.Test.YtoahhklogohehaaW02
set_option linter.unusedSimpArgs false
set_option linter.unusedVariables false
set_option maxRecDepth 100000
namespace Go.Proofs.Ytoahhklogohehaa
open Go Go.AV
open Nat renaming reduceEqDiff → aa, reduceAdd → V, reduceLeDiff → ad, reduceLT → ag, reduceMul → af, reduceSub → ae
open List renaming set_cons_zero → cK, set_cons_succ → cF, getD_cons_zero → au, length_append → ar, map_cons → aJ, cons_append → aN, map_nil → bz, length_cons → ax, nil_append → b6, take_succ_cons → d6, length_nil → aI, length_map → aw, length_replicate → aB, take_length → aO, mem_cons_self → aV, mem_cons_of_mem → aM
open Int renaming toNat_natCast → ai
theorem yh (ls : List (List Int)) (hb : ls.flatten.length ≤ 1000000) : cb Try.prog 80 [.one (.list (.list (.int .i64)) ls)] (.one (.list (.int .i64) ls.flatten)) := by
 refine aT Try.func80 rfl (by kernel_rfl) (Nat.le_of_ble_eq_true rfl) rfl fun C hP hN hB => ?_
 replace hN : C.N = 36 := hN
 simp only [bc, V]
 refine mL 0 rfl fun hf0 => ?_; simp only [lkp, if_true, if_false, reduceCtorEq, aa, eq_self, Nat.one_ne_zero, Nat.zero_ne_one, sF, qE, qq, Fit, and_true, implies_true, true_and] at hf0
 refine ah fun _ k1 => ?_
 refine am hP hN rfl ?_
 (refine aj rfl fun _ k0 => ?_; simp only [zO, zT, acs, reduceCtorEq, aa, V, ad, ag, af, ae]; (repeat refine an ?_); (try refine .inl ?_); apply k0; clear k0; simp only [zP, V])
 refine ao ?_
 apply k1; clear k1; refine kp [0, 2] ?_
 refine ah fun _ k2 => ?_
 refine am hP hN rfl ?_
 (refine aj rfl fun _ k0 => ?_; simp only [zO, zT, acs, reduceCtorEq, aa, V, ad, ag, af, ae]; (repeat refine an ?_); (try refine .inl ?_); apply k0; clear k0; simp only [zP, V])
 refine ao ?_
 apply k2; clear k2; refine kp [0, 2, 3] ?_
 refine ah fun _ k3 => ?_
 refine ah fun _ k4 => ?_
 refine am hP hN rfl ?_
 iterate 3 (refine aj rfl fun _ k0 => ?_; simp only [zO, zT, acs, reduceCtorEq, aa, V, ad, ag, af, ae]; (repeat refine an ?_); (try refine .inl ?_); apply k0; clear k0; simp only [zP, V])
 refine ao ?_
 apply k4; clear k4; refine kp [0, 2, 3, 9, 10, 11] ?_
 refine aD ?_
 refine bn (fun n5 s5 => ∃ (k : Nat), (k ≤ ls.length) ∧ n5 = ls.length - k ∧ s5 = { env := [(0, .one (.list (.list (.int .i64)) ls)), (3, .one (.int .i64 (((ls.take k).flatten.length : Nat) : Int))), (9, .one (.list (.list (.int .i64)) ls)), (10, .one (.int .i64 (ls.length : Int))), (11, .one (.int .i64 (k : Int)))], L := [] }) ?_ ?_
 ·exact ⟨_, _, aA [0, 3, 9, 10, 11], 0, Nat.zero_le _, rfl, rfl⟩
 rintro n5 s5 ⟨k, hk, rfl, rfl⟩
 refine ah fun _ k6 => ?_
 refine am hP hN rfl ?_
 (refine aj rfl fun _ k0 => ?_; simp only [zO, zT, acs, reduceCtorEq, aa, V, ad, ag, af, ae]; (repeat refine an ?_); (try refine .inl ?_); apply k0; clear k0; simp only [zP, V])
 refine ao ?_
 apply k6; clear k6; refine kp [0, 3, 9, 10, 11, 12] ?_
 refine ah fun _ k7 => ?_
 refine cd (fun hc8 => ?_) (fun hc8 => ?_)
 ·(try simp only [zB, reduceCtorEq] at hc8)
  refine ay ?_
  apply k7; clear k7; refine kp [0, 3, 9, 10, 11, 12] ?_
  refine ah fun _ k9 => ?_
  refine aD ?_
  refine ah fun _ k10 => ?_
  refine am hP hN rfl ?_
  iterate 3 (refine aj rfl fun _ k0 => ?_; simp only [zO, zT, acs, reduceCtorEq, aa, V, ad, ag, af, ae]; (repeat refine an ?_); (try refine .inl ?_); apply k0; clear k0; simp only [zP, V])
  refine ao ?_
  apply k10; clear k10; refine kp [0, 3, 5, 9, 10, 11, 12] ?_
  refine ah fun _ k11 => ?_
  have hfl := iY ls (k + 1); have hfe : (ls.take (k + 1)).flatten.length = (ls.take k).flatten.length + (ls.getD k []).length := by rw [ii ls (by omega), ar]
  refine am hP hN rfl ?_
  iterate 5 (refine aj rfl fun _ k0 => ?_; simp only [zO, zT, acs, reduceCtorEq, aa, V, ad, ag, af, ae]; (repeat refine an ?_); (try refine .inl ?_); apply k0; clear k0; simp only [zP, V])
  refine ao ?_
  apply k11; clear k11; refine kp [0, 3, 5, 9, 10, 11, 12] ?_
  refine ah fun _ k12 => ?_
  refine am hP hN rfl ?_
  iterate 2 (refine aj rfl fun _ k0 => ?_; simp only [zO, zT, acs, reduceCtorEq, aa, V, ad, ag, af, ae]; (repeat refine an ?_); (try refine .inl ?_); apply k0; clear k0; simp only [zP, V])
  refine ao ?_
  apply k12; clear k12; refine kp [0, 3, 5, 9, 10, 11, 12, 20] ?_
  refine cd (fun hc13 => ?_) (fun hc13 => ?_)
  · exfalso; (try simp only [zB, reduceCtorEq] at hc13); all_goals (first | (cases hc13; done) | omega | (simp at hc13; done) | (simp_all; done))
  (try simp only [zB, reduceCtorEq] at hc13)
  refine ay ?_
  apply k9; clear k9; refine kp [0, 3, 5, 9, 10, 11, 12, 20] ?_
  refine am hP hN rfl ?_
  iterate 2 (refine aj rfl fun _ k0 => ?_; simp only [zO, zT, acs, reduceCtorEq, aa, V, ad, ag, af, ae]; (repeat refine an ?_); (try refine .inl ?_); apply k0; clear k0; simp only [zP, V])
  refine ao ?_
  refine ⟨_, _, ?_, aA [0, 3, 9, 10, 11], k + 1, by omega, rfl, ?_⟩
  · omega
  · rw [hfe]; simp only [Int.natCast_add]; rfl
 (try simp only [zB, reduceCtorEq] at hc8)
 refine aZ ?_
 apply k3; clear k3; refine kp [0, 3, 9, 10, 11, 12] ?_
 refine ah fun _ k14 => ?_
 have hfl := iY ls k
 refine am hP hN rfl ?_
 (refine aj rfl fun _ k0 => ?_; simp only [zO, zT, acs, reduceCtorEq, aa, V, ad, ag, af, ae]; (repeat refine an ?_); (try refine .inl ?_); apply k0; clear k0; simp only [zP, V])
 refine aj rfl fun _ k0 => ?_
 refine aK (h := jH (BC (((ls.take k).flatten.length : Nat) : Int) (by omega) (by omega))) rfl rfl (by first | exact rfl | (simp only [ev, zP, aa, V]; exact rfl)) (by simp only [zV, acs, reduceCtorEq, aa, V, ad, ag, af, ae]) ?_
 apply k0; clear k0; simp only [zP, V]
 (refine aj rfl fun _ k0 => ?_; simp only [zO, zT, acs, reduceCtorEq, aa, V, ad, ag, af, ae]; (repeat refine an ?_); (try refine .inl ?_); apply k0; clear k0; simp only [zP, V])
 refine ao ?_
 apply k14; clear k14; refine kp [0, 3, 6, 9, 10, 11, 12] ?_
 refine ah fun _ k15 => ?_
 refine ah fun _ k16 => ?_
 refine am hP hN rfl ?_
 iterate 3 (refine aj rfl fun _ k0 => ?_; simp only [zO, zT, acs, reduceCtorEq, aa, V, ad, ag, af, ae]; (repeat refine an ?_); (try refine .inl ?_); apply k0; clear k0; simp only [zP, V])
 refine ao ?_
 apply k16; clear k16; refine kp [0, 3, 6, 9, 10, 11, 12, 25, 26, 27] ?_
 refine aD ?_
 refine bn (fun n17 s17 => ∃ (k : Nat) (v : Nat), (k ≤ ls.length) ∧ n17 = ls.length - k ∧ s17 = { env := [(6, .one (.row 0 v)), (25, .one (.list (.list (.int .i64)) ls)), (26, .one (.int .i64 (ls.length : Int))), (27, .one (.int .i64 (k : Int)))], L := [.row (.int .i64) 3 v (ls.take k).flatten] }) ?_ ?_
 ·exact ⟨_, _, aA [6, 25, 26, 27], 0, 0, Nat.zero_le _, rfl, rfl⟩
 rintro n17 s17 ⟨k, v, hk, rfl, rfl⟩
 refine ah fun _ k18 => ?_
 refine am hP hN rfl ?_
 (refine aj rfl fun _ k0 => ?_; simp only [zO, zT, acs, reduceCtorEq, aa, V, ad, ag, af, ae]; (repeat refine an ?_); (try refine .inl ?_); apply k0; clear k0; simp only [zP, V])
 refine ao ?_
 apply k18; clear k18; refine kp [6, 25, 26, 27, 28] ?_
 refine ah fun _ k19 => ?_
 refine cd (fun hc20 => ?_) (fun hc20 => ?_)
 ·(try simp only [zB, reduceCtorEq] at hc20)
  refine ay ?_
  apply k19; clear k19; refine kp [6, 25, 26, 27, 28] ?_
  refine ah fun _ k21 => ?_
  refine aD ?_
  refine ah fun _ k22 => ?_
  refine am hP hN rfl ?_
  iterate 3 (refine aj rfl fun _ k0 => ?_; simp only [zO, zT, acs, reduceCtorEq, aa, V, ad, ag, af, ae]; (repeat refine an ?_); (try refine .inl ?_); apply k0; clear k0; simp only [zP, V])
  refine ao ?_
  apply k22; clear k22; refine kp [6, 8, 25, 26, 27, 28] ?_
  have hfl := iY ls (k + 1); have hfe : (ls.take (k + 1)).flatten.length = (ls.take k).flatten.length + (ls.getD k []).length := by rw [ii ls (by omega), ar]
  refine am hP hN rfl ?_
  iterate 4 (refine aj rfl fun _ k0 => ?_; simp only [zO, zT, acs, reduceCtorEq, aa, V, ad, ag, af, ae]; (repeat refine an ?_); (try refine .inl ?_); apply k0; clear k0; simp only [zP, V])
  refine ao ?_
  apply k21; clear k21; refine kp [6, 8, 25, 26, 27, 28] ?_
  refine am hP hN rfl ?_
  iterate 2 (refine aj rfl fun _ k0 => ?_; simp only [zO, zT, acs, reduceCtorEq, aa, V, ad, ag, af, ae]; (repeat refine an ?_); (try refine .inl ?_); apply k0; clear k0; simp only [zP, V])
  refine ao ?_
  refine ⟨_, _, ?_, aA [6, 25, 26, 27], k + 1, v + 1, by omega, rfl, ?_⟩
  · omega
  · rw [ii ls (by omega)]; rfl
 (try simp only [zB, reduceCtorEq] at hc20)
 refine aZ ?_
 apply k15; clear k15; refine kp [6, 25, 26, 27, 28] ?_
 refine ah fun _ k23 => ?_
 refine am hP hN rfl ?_
 iterate 2 (refine aj rfl fun _ k0 => ?_; simp only [zO, zT, acs, reduceCtorEq, aa, V, ad, ag, af, ae]; (repeat refine an ?_); (try refine .inl ?_); apply k0; clear k0; simp only [zP, V])
 refine ao ?_
 apply k23; clear k23; refine kp [2, 6, 25, 26, 27, 28] ?_
 refine aE ?_
 refine ⟨nr, _, rfl, ?_⟩; simp only [zF, zP, aa, V]
 refine VLE.of_eq ?_
 have htk : ls.take k = ls := by rw [show k = ls.length by omega, aO]
 rw [htk]
theorem vS (ls : List (List Int)) (hb : ls.flatten.length ≤ 1000000) : cb Try.prog 68 [.one (.list (.list (.int .i64)) ls)] (.one (.list (.int .i64) ls.flatten)) := by
 refine aT Try.func68 rfl (by kernel_rfl) (Nat.le_of_ble_eq_true rfl) rfl fun C hP hN hB => ?_
 replace hN : C.N = 5 := hN
 simp only [bc, V]
 refine ah fun _ k1 => ?_
 refine am hP hN rfl ?_
 (refine aj rfl fun _ k0 => ?_; simp only [zO, zT, acs, reduceCtorEq, aa, V, ad, ag, af, ae]; (repeat refine an ?_); (try refine .inl ?_); apply k0; clear k0; simp only [zP, V])
 refine ao ?_
 apply k1; clear k1; refine kp [0, 2] ?_
 refine ah fun _ k2 => ?_
 refine am hP hN rfl ?_
 (refine aj rfl fun _ k0 => ?_; simp only [zO, zT, acs, reduceCtorEq, aa, V, ad, ag, af, ae]; (repeat refine an ?_); (try refine .inl ?_); apply k0; clear k0; simp only [zP, V])
 refine aj rfl fun _ k0 => ?_
 refine aK (h := aC (yh ls hb)) rfl rfl (by first | exact rfl | (simp only [ev, zP, aa, V]; exact rfl)) (by simp only [zV, acs, reduceCtorEq, aa, V, ad, ag, af, ae]) ?_
 apply k0; clear k0; simp only [zP, V]
 (refine aj rfl fun _ k0 => ?_; simp only [zO, zT, acs, reduceCtorEq, aa, V, ad, ag, af, ae]; (repeat refine an ?_); (try refine .inl ?_); apply k0; clear k0; simp only [zP, V])
 refine ao ?_
 apply k2; clear k2; refine kp [0, 2] ?_
 refine aE ?_
 refine ⟨nr, _, rfl, ?_⟩; simp only [zF, zP, aa, V]
 refine VLE.of_eq ?_
 rfl
set_option maxHeartbeats 1000000 in
theorem yW (a b : Mly) (s t : Int) (ha : MOK a) (hb : MOK b) (hi : a.inp = b.inp) (hs : 0 ≤ s ∧ s < a.nx.length) (ht : 0 ≤ t ∧ t < b.nx.length) : cb Try.prog 49 [a.av, b.av, .agg [.int .i64 s, .int .i64 t]] (.tup [.one (.list (.int .i64) ((seS a b s t).getD [])), .one (.bool (seS a b s t).isSome)]) := by
 have hai1 := ha.i1; have hai2 := ha.i2; have han2 := ha.n2; have hbn2 := hb.n2; have hao := ha.ol; have hbo := hb.ol; have hfu : fuS a b = a.nx.length * b.nx.length + 1 := rfl
 refine aT Try.func49 rfl (by kernel_rfl) (Nat.le_of_ble_eq_true rfl) rfl fun C hP hN hB => ?_
 replace hN : C.N = 144 := hN
 simp only [bc, V]
 refine ah fun _ k1 => ?_
 refine am hP hN rfl ?_
 iterate 5 (refine aj rfl fun _ k0 => ?_; simp only [zO, zT, acs, reduceCtorEq, aa, V, ad, ag, af, ae, Mly.av, aw, aW, bt, bl, bg, ar, bP, bK, aB, au]; (repeat refine an ?_); (try refine .inl ?_); apply k0; clear k0; simp only [zP, V, List.append_assoc, bq, b7, ba])
 refine ao ?_
 apply k1; clear k1; refine kp [0, 1, 2, 3, 4, 5, 6, 7] ?_
 refine ah fun _ k2 => ?_
 refine am hP hN rfl ?_
 iterate 3 (refine aj rfl fun _ k0 => ?_; simp only [zO, zT, acs, reduceCtorEq, aa, V, ad, ag, af, ae, Mly.av, aw, aW, bt, bl, bg, ar, bP, bK, aB, au]; (repeat refine an ?_); (try refine .inl ?_); apply k0; clear k0; simp only [zP, V, List.append_assoc, bq, b7, ba])
 (refine aj rfl fun _ k0 => ?_; simp only [zE, op1, ev, lkp, d7, ca, cR, bC, Ty.size, Ty.dflt, reduceCtorEq, aa, V, ad, ag, af, ae, Try.el106, Try.td106, Mly.av, aw, aW, bt, bl, bg, ar, bP, bK, aB, au]; (repeat refine an ?_); refine Or.inr (Or.inl (k0 _ ?_)); clear k0; simp only [zP, V, List.append_assoc, bq, b7, ba])
 (refine aj rfl fun _ k0 => ?_; simp only [zO, zT, acs, reduceCtorEq, aa, V, ad, ag, af, ae, Mly.av, aw, aW, bt, bl, bg, ar, bP, bK, aB, au]; (repeat refine an ?_); (try refine .inl ?_); apply k0; clear k0; simp only [zP, V, List.append_assoc, bq, b7, ba])
 refine ao ?_
 apply k2; clear k2; refine kp [0, 1, 2, 3, 4, 5, 6, 7, 8] ?_
 refine ah fun _ k3 => ?_
 refine ah fun _ k4 => ?_
 refine am hP hN rfl ?_
 iterate 3 (refine aj rfl fun _ k0 => ?_; simp only [zO, zT, acs, reduceCtorEq, aa, V, ad, ag, af, ae, Mly.av, aw, aW, bt, bl, bg, ar, bP, bK, aB, au]; (repeat refine an ?_); (try refine .inl ?_); apply k0; clear k0; simp only [zP, V, List.append_assoc, bq, b7, ba])
 refine ao ?_
 apply k4; clear k4; refine kp [0, 1, 2, 3, 4, 5, 6, 7, 8, 20, 21] ?_
 refine aD ?_
 refine bn (fun n5 s5 => ∃ (k : Nat), (k ≤ a.nx.length) ∧ n5 = a.nx.length - k ∧ s5 = { env := [(3, .one (.ptr 0 0 0 0)), (4, .one (.ptr 1 0 0 0)), (5, .one (.ptr 2 0 0 0)), (8, .one (.rwc 3 0)), (20, .one (.int .i64 (a.nx.length : Int))), (21, .one (.int .i64 (k : Int)))], L := .vars 24 [.int .i64 a.inp, .int .i64 a.st, .list (.list (.int .i64)) a.nx, .list (.list (.int .i64)) a.ot] :: .vars 24 [.int .i64 b.inp, .int .i64 b.st, .list (.list (.int .i64)) b.nx, .list (.list (.int .i64)) b.ot] :: .vars 89 [.int .i64 s, .int .i64 t] :: .rowc 107 1 0 (iP (fun i => AC.row (i + 1 + 1 + 1 + 1) 0) .nils a.nx.length k) :: dk 4 (fun _ => List.replicate b.nx.length false) k }) ?_ ?_
 ·refine ⟨_, _, aA [3, 4, 5, 8, 20, 21], 0, Nat.zero_le _, rfl, ?_⟩
  rw [pz, ← bK]; rfl
 rintro n5 s5 ⟨k, hk, rfl, rfl⟩
 refine ah fun _ k6 => ?_
 refine am hP hN rfl ?_
 (refine aj rfl fun _ k0 => ?_; simp only [zO, zT, acs, reduceCtorEq, aa, V, ad, ag, af, ae, Mly.av, aw, aW, bt, bl, bg, ar, bP, bK, aB, au]; (repeat refine an ?_); (try refine .inl ?_); apply k0; clear k0; simp only [zP, V, List.append_assoc, bq, b7, ba])
 refine ao ?_
 apply k6; clear k6; refine kp [3, 4, 5, 8, 20, 21, 22] ?_
 refine ah fun _ k7 => ?_
 refine cd (fun hc8 => ?_) (fun hc8 => ?_)
 ·(try simp only [zB, reduceCtorEq] at hc8)
  refine ay ?_
  apply k7; clear k7; refine kp [3, 4, 5, 8, 20, 21, 22] ?_
  refine ah fun _ k9 => ?_
  refine aD ?_
  refine ah fun _ k10 => ?_
  refine am hP hN rfl ?_
  iterate 2 (refine aj rfl fun _ k0 => ?_; simp only [zO, zT, acs, reduceCtorEq, aa, V, ad, ag, af, ae, Mly.av, aw, aW, bt, bl, bg, ar, bP, bK, aB, au]; (repeat refine an ?_); (try refine .inl ?_); apply k0; clear k0; simp only [zP, V, List.append_assoc, bq, b7, ba])
  refine ao ?_
  apply k10; clear k10; refine kp [3, 4, 5, 8, 9, 20, 21, 22] ?_
  have hsf := sP (fun i => AC.row (i + 1 + 1 + 1 + 1) 0) .nils (n := a.nx.length) (k := k) (by omega); have hw : ∀ c, bY (iP (fun i => AC.row (i + 1 + 1 + 1 + 1) 0) .nils a.nx.length k) k [c] = (iP (fun i => AC.row (i + 1 + 1 + 1 + 1) 0) .nils a.nx.length k).set k c := fun c => tO (by omega)
  refine am hP hN rfl ?_
  iterate 5 (refine aj rfl fun _ k0 => ?_; simp only [zE, op1, ev, lkp, d7, ca, bZ, df, Nat.mul_one, ci, cT, acs, Ty.dflt, zG, cm, cq, fb, eB, cP, db, eH, Nat.div_one, cM, dg, Ty.size, bC, dite_true, reduceCtorEq, aa, V, ad, ag, af, ae, Try.el106, Try.el22, Try.st24, Try.td106, Try.td2, Try.td22, Try.td24, Try.td3, Mly.av, aw, aW, bt, bl, bg, ar, bP, bK, aB, au, hsf, hw]; (repeat refine an ?_); (try refine .inl ?_); apply k0; clear k0; simp only [zP, V, List.append_assoc, bq, b7, ba])
  (refine aj rfl fun _ k0 => ?_; simp only [zE, op1, ev, lkp, d7, ca, bZ, df, Nat.mul_one, ci, cT, acs, Ty.dflt, zG, cm, cq, fb, eB, cP, db, eH, Nat.div_one, cM, dg, Ty.size, bC, dite_true, cR, cG, ne_eq, not_false_eq_true, Int.natCast_one, Int.mul_one, ep, cr, reduceCtorEq, aa, V, ad, ag, af, ae, Try.el106, Try.el107, Try.el22, Try.st24, Try.td106, Try.td107, Try.td2, Try.td22, Try.td24, Try.td3, Mly.av, aw, aW, bt, bl, bg, ar, bP, bK, aB, au, hsf, hw]; (repeat refine an ?_); (try refine .inl ?_); apply k0; clear k0; simp only [zP, V, List.append_assoc, bq, b7, ba])
  iterate 2 (refine aj rfl fun _ k0 => ?_; simp only [zE, op1, ev, lkp, d7, ca, cG, zG, Ty.dflt, Ty.size, Nat.mul_one, ne_eq, not_false_eq_true, Int.natCast_one, Int.mul_one, ep, cr, bC, acs, reduceCtorEq, aa, V, ad, ag, af, ae, Try.el106, Try.el107, Try.td106, Try.td107, Mly.av, aw, aW, bt, bl, bg, ar, bP, bK, aB, au, hsf, hw]; (repeat refine an ?_); (try refine .inl ?_); apply k0; clear k0; simp only [zP, V, List.append_assoc, bq, b7, ba])
  refine ao ?_
  apply k9; clear k9; refine kp [3, 4, 5, 8, 9, 20, 21, 22] ?_
  refine am hP hN rfl ?_
  iterate 2 (refine aj rfl fun _ k0 => ?_; simp only [zO, zT, acs, reduceCtorEq, aa, V, ad, ag, af, ae, Mly.av, aw, aW, bt, bl, bg, ar, bP, bK, aB, au]; (repeat refine an ?_); (try refine .inl ?_); apply k0; clear k0; simp only [zP, V, List.append_assoc, bq, b7, ba])
  refine ao ?_
  refine ⟨_, _, ?_, aA [3, 4, 5, 8, 20, 21], k + 1, by omega, rfl, ?_⟩
  · omega
  · rw [← jj _ _ (by omega), vw]; rfl
 (try simp only [zB, reduceCtorEq] at hc8)
 refine aZ ?_
 apply k3; clear k3; refine kp [3, 4, 5, 8, 20, 21, 22] ?_
 refine ah fun _ k11 => ?_
 have hkn : k = a.nx.length := by omega
 subst hkn
 rw [sM]
 have hg0 := vu (n := a.nx.length) (i := s.toNat) (by omega); have hr0 := vM (e := 4) (f := fun _ => List.replicate b.nx.length false) (n := a.nx.length) (i := s.toNat) (by omega)
 have hst : (dk 4 (fun _ => List.replicate b.nx.length false) a.nx.length).set s.toNat (.row .bool 4 0 ((List.replicate b.nx.length false).set t.toNat true)) = dk 4 (snS [(s, t, [])] b.nx.length) a.nx.length := ml (by omega) (by rw [uK b.nx.length s.toNat]; exact ug (l := []) hs.1 ht) (fun j hj hne => by rw [uK b.nx.length j]; exact qn (l := []) hs.1 hne)
 rw [show (List.range a.nx.length).map (fun i => AC.row (i + 1 + 1 + 1 + 1) 0) = gcs a.nx.length from rfl]
 refine bu hP hN Try.mixed rfl ?_
 iterate 9 (refine aj rfl fun _ k0 => ?_; simp only [zO, zT, acs, reduceCtorEq, aa, V, ad, ag, af, ae, Mly.av, aw, aW, bt, bl, bg, ar, bP, bK, aB, au, hg0, hr0, aB]; (repeat refine an ?_); (try refine .inl ?_); apply k0; clear k0; simp only [zP, V, List.append_assoc, bq, b7, ba, hst])
 refine ao ?_
 refine ⟨by kernel_rfl, ?_⟩
 apply k11; clear k11; refine kp [3, 4, 5, 8, 20, 21, 22] ?_
 refine ah fun _ k12 => ?_
 refine am hP hN rfl ?_
 iterate 2 (refine aj rfl fun _ k0 => ?_; simp only [zO, zT, acs, reduceCtorEq, aa, V, ad, ag, af, ae, Mly.av, aw, aW, bt, bl, bg, ar, bP, bK, aB, au]; (repeat refine an ?_); (try refine .inl ?_); apply k0; clear k0; simp only [zP, V, List.append_assoc, bq, b7, ba])
 (refine aj rfl fun _ k0 => ?_; simp only [zO, zT, acs, reduceCtorEq, aa, V, ad, ag, af, ae, Mly.av, aw, aW, bt, bl, bg, ar, bP, bK, aB, au]; (repeat refine an ?_); refine Or.inr (Or.inl (k0 _ ?_)); clear k0; simp only [zP, V, List.append_assoc, bq, b7, ba])
 (refine aj rfl fun _ k0 => ?_; simp only [zO, zT, acs, reduceCtorEq, aa, V, ad, ag, af, ae, Mly.av, aw, aW, bt, bl, bg, ar, bP, bK, aB, au]; (repeat refine an ?_); (try refine .inl ?_); apply k0; clear k0; simp only [zP, V, List.append_assoc, bq, b7, ba])
 refine ao ?_
 apply k12; clear k12; refine kp [3, 4, 5, 8, 10, 20, 21, 22] ?_
 refine ah fun _ k13 => ?_
 refine ah fun _ k14 => ?_
 refine am hP hN rfl ?_
 (refine aj rfl fun _ k0 => ?_; simp only [zO, zT, acs, reduceCtorEq, aa, V, ad, ag, af, ae, Mly.av, aw, aW, bt, bl, bg, ar, bP, bK, aB, au]; (repeat refine an ?_); (try refine .inl ?_); apply k0; clear k0; simp only [zP, V, List.append_assoc, bq, b7, ba])
 refine ao ?_
 apply k14; clear k14; refine kp [3, 4, 5, 8, 10, 11, 20, 21, 22] ?_
 refine aD ?_
 refine bn (fun n15 s15 => ∃ (i : Nat) (l : List S3) (v : Nat), (WFS a b l) ∧ (srS a b (fuS a b - i) i l = seS a b s t) ∧ (i ≤ l.length) ∧ n15 = fuS a b - i ∧ s15 = { env := [(3, .one (.ptr 0 0 0 0)), (4, .one (.ptr 1 0 0 0)), (8, .one (.rwc 3 0)), (10, .one (.row (a.nx.length + 1 + 1 + 1 + 1) v)), (11, .one (.int .i64 (i : Int)))], L := .vars 24 [.int .i64 a.inp, .int .i64 a.st, .list (.list (.int .i64)) a.nx, .list (.list (.int .i64)) a.ot] :: .vars 24 [.int .i64 b.inp, .int .i64 b.st, .list (.list (.int .i64)) b.nx, .list (.list (.int .i64)) b.ot] :: .vars 89 [.int .i64 s, .int .i64 t] :: .rowc 107 1 0 (gcs a.nx.length) :: (dk 4 (snS l b.nx.length) a.nx.length ++ [.row (.pair (.pair (.int .i64) (.pair (.int .i64) (.unit))) (.pair (.list (.int .i64)) (.unit))) 109 v (List.map xN l)]) }) ?_ ?_
 ·refine ⟨_, _, aA [3, 4, 8, 10, 11], 0, [(s, t, [])], 0, vz hs ht, rfl, Nat.zero_le _, rfl, rfl⟩
 rintro n15 s15 ⟨i, l, v, hwf, hsr, hil0, rfl, rfl⟩
 refine ah fun _ k16 => ?_
 refine ah fun _ k17 => ?_
 refine am hP hN rfl ?_
 iterate 4 (refine aj rfl fun _ k0 => ?_; simp only [zO, zT, acs, reduceCtorEq, aa, V, ad, ag, af, ae, Mly.av, aw, aW, bt, bl, bg, ar, bP, bK, aB, au]; (repeat refine an ?_); (try refine .inl ?_); apply k0; clear k0; simp only [zP, V, List.append_assoc, bq, b7, ba])
 refine ao ?_
 apply k17; clear k17; refine kp [3, 4, 8, 10, 11, 46] ?_
 refine cd (fun hc18 => ?_) (fun hc18 => ?_)
 ·(try simp only [zB, reduceCtorEq] at hc18)
  refine ay ?_
  apply k16; clear k16; refine kp [3, 4, 8, 10, 11, 46] ?_
  refine ah fun _ k19 => ?_
  refine aD ?_
  refine ah fun _ k20 => ?_
  have hil : i < l.length := by omega
  have hgi : ∀ d, (List.map xN l).getD i d = (((l.getD i eS0).1, ((l.getD i eS0).2.1, ())), ((l.getD i eS0).2.2, ())) := fun d => by rw [qJ eS0 d (by omega)]; rfl
  refine am hP hN rfl ?_
  iterate 7 (refine aj rfl fun _ k0 => ?_; simp only [zO, zT, acs, reduceCtorEq, aa, V, ad, ag, af, ae, Mly.av, aw, aW, bt, bl, bg, ar, bP, bK, aB, au, hgi]; (repeat refine an ?_); (try refine .inl ?_); apply k0; clear k0; simp only [zP, V, List.append_assoc, bq, b7, ba])
  refine ao ?_
  apply k20; clear k20; refine kp [3, 4, 8, 10, 11, 12, 46] ?_
  refine ah fun _ k21 => ?_
  refine am hP hN rfl ?_
  iterate 3 (refine aj rfl fun _ k0 => ?_; simp only [zO, zT, acs, reduceCtorEq, aa, V, ad, ag, af, ae, Mly.av, aw, aW, bt, bl, bg, ar, bP, bK, aB, au]; (repeat refine an ?_); (try refine .inl ?_); apply k0; clear k0; simp only [zP, V, List.append_assoc, bq, b7, ba])
  refine ao ?_
  apply k21; clear k21; refine kp [3, 4, 8, 10, 11, 12, 46, 55, 56] ?_
  refine aD ?_
  refine bn (fun n22 s22 => ∃ (x : Nat) (v2 : Nat), ((x : Int) ≤ a.inp) ∧ (∀ y, y < x → gX a b (l.getD i eS0) y = false) ∧ (WFS a b (dI a b (l.getD i eS0) l x)) ∧ n22 = a.inp.toNat - x ∧ s22 = { env := [(3, .one (.ptr 0 0 0 0)), (4, .one (.ptr 1 0 0 0)), (8, .one (.rwc 3 0)), (10, .one (.row (a.nx.length + 1 + 1 + 1 + 1) v2)), (11, .one (.int .i64 (i : Int))), (12, .one (.ptr (a.nx.length + 1 + 1 + 1 + 1 + 1) 0 0 0)), (55, .one (.int .i64 a.inp)), (56, .one (.int .i64 (x : Int)))], L := .vars 24 [.int .i64 a.inp, .int .i64 a.st, .list (.list (.int .i64)) a.nx, .list (.list (.int .i64)) a.ot] :: .vars 24 [.int .i64 b.inp, .int .i64 b.st, .list (.list (.int .i64)) b.nx, .list (.list (.int .i64)) b.ot] :: .vars 89 [.int .i64 s, .int .i64 t] :: .rowc 107 1 0 (gcs a.nx.length) :: (dk 4 (snS (dI a b (l.getD i eS0) l x) b.nx.length) a.nx.length ++ [.row (.pair (.pair (.int .i64) (.pair (.int .i64) (.unit))) (.pair (.list (.int .i64)) (.unit))) 109 v2 (List.map xN (dI a b (l.getD i eS0) l x)), .vars 89 [.int .i64 (l.getD i eS0).1, .int .i64 (l.getD i eS0).2.1]]) }) ?_ ?_
  ·exact ⟨_, _, aA [3, 4, 8, 10, 11, 12, 55, 56], 0, v, by omega, fun y hy => by omega, hwf, rfl, rfl⟩
  rintro n22 s22 ⟨x, v2, hx, hdf, hwr, rfl, rfl⟩
  refine ah fun _ k23 => ?_
  refine am hP hN rfl ?_
  (refine aj rfl fun _ k0 => ?_; simp only [zO, zT, acs, reduceCtorEq, aa, V, ad, ag, af, ae, Mly.av, aw, aW, bt, bl, bg, ar, bP, bK, aB, au]; (repeat refine an ?_); (try refine .inl ?_); apply k0; clear k0; simp only [zP, V, List.append_assoc, bq, b7, ba])
  refine ao ?_
  apply k23; clear k23; refine kp [3, 4, 8, 10, 11, 12, 55, 56, 57] ?_
  refine ah fun _ k24 => ?_
  refine cd (fun hc25 => ?_) (fun hc25 => ?_)
  ·(try simp only [zB, reduceCtorEq] at hc25)
   refine ay ?_
   apply k24; clear k24; refine kp [3, 4, 8, 10, 11, 12, 55, 56, 57] ?_
   refine ah fun _ k26 => ?_
   refine aD ?_
   refine ah fun _ k27 => ?_
   refine am hP hN rfl ?_
   iterate 2 (refine aj rfl fun _ k0 => ?_; simp only [zO, zT, acs, reduceCtorEq, aa, V, ad, ag, af, ae, Mly.av, aw, aW, bt, bl, bg, ar, bP, bK, aB, au]; (repeat refine an ?_); (try refine .inl ?_); apply k0; clear k0; simp only [zP, V, List.append_assoc, bq, b7, ba])
   refine ao ?_
   apply k27; clear k27; refine kp [3, 4, 8, 10, 11, 12, 13, 55, 56, 57] ?_
   refine ah fun _ k28 => ?_
   refine ah fun _ k29 => ?_
   have hil : i < l.length := by omega
   have hei := hwf.at_ hil; have hwl := hwf.wl hil; have hbl := hwf.le; have hbg := hwf.big ha hb; have hbr := hwr.big ha hb; have hge := r7 a b (l.getD i eS0) l x; have hat := qM a b (l.getD i eS0) x hil
   have har := ha.rl (l.getD i eS0).1.toNat (by omega); have haq := ha.ql (l.getD i eS0).1.toNat (by omega); have hbr2 := hb.rl (l.getD i eS0).2.1.toNat (by omega); have hbq := hb.ql (l.getD i eS0).2.1.toNat (by omega)
   have hgi : ∀ d, (List.map xN (dI a b (l.getD i eS0) l x)).getD i d = (((l.getD i eS0).1, ((l.getD i eS0).2.1, ())), ((l.getD i eS0).2.2, ())) := fun d => by rw [qJ eS0 d (by omega), hat]; rfl
   refine bu hP hN Try.mixed rfl ?_
   iterate 19 (refine aj rfl fun _ k0 => ?_; simp only [zO, zT, acs, reduceCtorEq, aa, V, ad, ag, af, ae, Mly.av, aw, aW, bt, bl, bg, ar, bP, bK, aB, au]; (repeat refine an ?_); (try refine .inl ?_); apply k0; clear k0; simp only [zP, V, List.append_assoc, bq, b7, ba])
   refine ao ?_
   refine ⟨by kernel_rfl, ?_⟩
   apply k29; clear k29; refine kp [3, 4, 8, 10, 11, 12, 13, 55, 56, 57, 77] ?_
   refine cd (fun hc30 => ?_) (fun hc30 => ?_)
   ·(try simp only [zB, reduceCtorEq] at hc30)
    refine ah fun _ k31 => ?_
    have hdx : gX a b (l.getD i eS0) x = true := by simp only [gX, Mly.out, ai]; simp_all
    refine am hP hN rfl ?_
    iterate 8 (refine aj rfl fun _ k0 => ?_; simp only [zO, zT, acs, reduceCtorEq, aa, V, ad, ag, af, ae, Mly.av, aw, aW, bt, bl, bg, ar, bP, bK, aB, au, hgi]; (repeat refine an ?_); (try refine .inl ?_); apply k0; clear k0; simp only [zP, V, List.append_assoc, bq, b7, ba])
    refine aj rfl fun _ k0 => ?_
    refine aK (h := aC (vS [(l.getD i eS0).2.2, [(x : Int)]] (by rw [qz]; omega))) rfl rfl (by first | exact rfl | (simp only [ev, zP, aa, V]; exact rfl)) (by simp only [zV, acs, reduceCtorEq, aa, V, ad, ag, af, ae, Mly.av, aw, aW, bt, bl, bg, ar, bP, bK, aB, au, hgi]) ?_
    apply k0; clear k0; simp only [zP, V, List.append_assoc, bq, b7, ba]
    iterate 2 (refine aj rfl fun _ k0 => ?_; simp only [zO, zT, acs, reduceCtorEq, aa, V, ad, ag, af, ae, Mly.av, aw, aW, bt, bl, bg, ar, bP, bK, aB, au, hgi]; (repeat refine an ?_); (try refine .inl ?_); apply k0; clear k0; simp only [zP, V, List.append_assoc, bq, b7, ba])
    refine ao ?_
    apply k31; clear k31; refine kp [3, 4, 6, 7, 8, 10, 11, 12, 13, 55, 56, 57, 77] ?_
    refine aE ?_
    refine ⟨nr, _, rfl, ?_⟩; simp only [zF, zP, aa, V, Mly.av, aw, aW, bt, bl, bg, ar, bP, bK, aB, au]
    first
    | (have hx2 : x < a.inp.toNat := by omega
       rw [← hsr, show fuS a b - i = (fuS a b - (i + 1)) + 1 by omega, pO hil hx2 hdx hdf]
       exact VLE.of_eq (by simp))
    | (rw [← hsr, uS _ _ _ _ _ (by omega)]; exact bE ⟨aF (bo rfl), aF (.refl _), trivial⟩)
   (try simp only [zB, reduceCtorEq] at hc30)
   refine ay ?_
   apply k28; clear k28; refine kp [3, 4, 8, 10, 11, 12, 13, 55, 56, 57, 77] ?_
   refine ah fun _ k32 => ?_
   have hdn : gX a b (l.getD i eS0) x = false := by simp only [gX, Mly.out, ai]; simp_all
   refine j6 ?_; simp only [aN, List.append_assoc, b6]
   refine bu hP hN Try.mixed rfl ?_
   iterate 19 (refine aj rfl fun _ k0 => ?_; simp only [zO, zT, acs, reduceCtorEq, aa, V, ad, ag, af, ae, Mly.av, aw, aW, bt, bl, bg, ar, bP, bK, aB, au]; (repeat refine an ?_); (try refine .inl ?_); apply k0; clear k0; simp only [zP, V, List.append_assoc, bq, b7, ba])
   (refine aj rfl fun _ k0 => ?_; simp only [zO, zT, acs, reduceCtorEq, aa, V, ad, ag, af, ae, Mly.av, aw, aW, bt, bl, bg, ar, bP, bK, aB, au]; refine Or.inr (Or.inl ⟨(a.nx.length + 1 + 1 + 1 + 1 + 1 + 1), ?_, (.pair (.int .i64) (.pair (.int .i64) .unit)), (0, (0, ())), ?_⟩); (simp only [zE, bg]); (repeat refine And.intro (by first | rfl | decide) ?_); refine k0 _ ?_; clear k0; simp only [zP, V, List.append_assoc, bq, b7, ba])
   (refine aj rfl fun _ k0 => ?_; simp only [zO, zT, acs, reduceCtorEq, aa, V, ad, ag, af, ae, Mly.av, aw, aW, bt, bl, bg, ar, bP, bK, aB, au]; (repeat refine an ?_); (try refine .inl ?_); apply k0; clear k0; simp only [zP, V, List.append_assoc, bq, b7, ba])
   refine ao ?_
   refine ⟨by exact lR (pA a.nx.length) [([], [0], 0), ([], [0], 0), ([], [5], 0), ([], [5], 0), ([], [], 0), ([], [], 0), ([], [], 0), ([], [], 0), ([], [], 0), ([], [1], 0), ([], [1], 0), ([], [5], 0), ([], [5], 0), ([], [], 0), ([], [], 0), ([], [], 0), ([], [], 0), ([], [], 0), ([], [], 0), ([6], [6], 0), ([6], [6], 0)] (by kernel_rfl), ?_⟩
   apply k32; clear k32; refine kp [3, 4, 8, 10, 11, 12, 13, 14, 55, 56, 57, 77] ?_
   refine ah fun _ k33 => ?_
   have hpn := ha.nr (l.getD i eS0).1.toNat x (by omega) (by omega); have hqn := hb.nr (l.getD i eS0).2.1.toNat x (by omega) (by omega)
   have hgP := vu (n := a.nx.length) (i := ((a.nx.getD (l.getD i eS0).1.toNat []).getD x 0).toNat) (by omega); have hrP : ∀ X : List AO, (dk 4 (snS (dI a b (l.getD i eS0) l x) b.nx.length) a.nx.length ++ X)[((a.nx.getD (l.getD i eS0).1.toNat []).getD x 0).toNat]? = some (.row .bool 4 0 (snS (dI a b (l.getD i eS0) l x) b.nx.length ((a.nx.getD (l.getD i eS0).1.toNat []).getD x 0).toNat)) := fun X => wh (by omega)
   have hsL := zn (dI a b (l.getD i eS0) l x) b.nx.length ((a.nx.getD (l.getD i eS0).1.toNat []).getD x 0).toNat; have hsA := Br (l := (dI a b (l.getD i eS0) l x)) (m := b.nx.length) (p := ((a.nx.getD (l.getD i eS0).1.toNat []).getD x 0)) (q := ((b.nx.getD (l.getD i eS0).2.1.toNat []).getD x 0)) (by omega) (by omega)
   have hEin : (l.getD i eS0) ∈ (dI a b (l.getD i eS0) l x) := by
     have h9 := wu (l := (dI a b (l.getD i eS0) l x)) (i := i) (by omega)
     rw [hat] at h9; exact h9
   refine bu hP hN Try.mixed rfl ?_
   iterate 4 (refine aj rfl fun _ k0 => ?_; simp only [zO, zT, acs, reduceCtorEq, aa, V, ad, ag, af, ae, Mly.av, aw, aW, bt, bl, bg, ar, bP, bK, aB, au, hgP, hrP, hsL, hsA]; (repeat refine an ?_); (try refine .inl ?_); apply k0; clear k0; simp only [zP, V, List.append_assoc, bq, b7, ba])
   refine' aR (want := true) 10 rfl (m := 109) (by simp only [zP, aa, V]; exact rfl) (by kernel_rfl) rfl rfl rfl rfl rfl (fun hg34 => ?a34) ?b34 ?c34
   case a34 =>
    have hq34 := hg34; (try simp only [zB, reduceCtorEq] at hg34); simp only [zE]
    iterate 10 (refine bp rfl fun _ k0 => ?_; simp only [zO, zT, acs, reduceCtorEq, aa, V, ad, ag, af, ae, Mly.av, aw, aW, bt, bl, bg, ar, bP, bK, aB, au, hgP, hrP, hsL, hsA]; (repeat refine an ?_); (try refine .inl ?_); apply k0; clear k0; simp only [zP, V, List.append_assoc, bq, b7, ba])
    (refine aj rfl fun _ k0 => ?_; simp only [zO, zT, acs, reduceCtorEq, aa, V, ad, ag, af, ae, Mly.av, aw, aW, bt, bl, bg, ar, bP, bK, aB, au, hgP, hrP, hsL, hsA]; (repeat refine an ?_); (try refine .inl ?_); apply k0; clear k0; simp only [zP, V, List.append_assoc, bq, b7, ba])
    refine ao ?_
    refine ⟨by simp only [zP, aa, V]; exact rfl, rfl, ?_, rfl⟩; (repeat refine aS rfl ?_); exact bB (by exact rfl) hq34
   case b34 => exact cD
   simp only [bh, aY]
   refine ao ?_
   refine ⟨by kernel_rfl, ?_⟩
   apply k33; clear k33; refine kp [3, 4, 8, 10, 11, 12, 13, 14, 55, 56, 57, 77, 120] ?_
   refine cd (fun hc35 => ?_) (fun hc35 => ?_)
   ·(try simp only [zB, reduceCtorEq] at hc35)
    have hkn : inS (dI a b (l.getD i eS0) l x) ((a.nx.getD (l.getD i eS0).1.toNat []).getD x 0) ((b.nx.getD (l.getD i eS0).2.1.toNat []).getD x 0) = false := by simp_all
    refine ah fun _ k36 => ?_
    have hset : ∀ X : List AO, (dk 4 (snS (dI a b (l.getD i eS0) l x) b.nx.length) a.nx.length ++ X).set ((a.nx.getD (l.getD i eS0).1.toNat []).getD x 0).toNat (.row .bool 4 0 ((snS (dI a b (l.getD i eS0) l x) b.nx.length ((a.nx.getD (l.getD i eS0).1.toNat []).getD x 0).toNat).set ((b.nx.getD (l.getD i eS0).2.1.toNat []).getD x 0).toNat true)) = dk 4 (snS ((dI a b (l.getD i eS0) l x) ++ [(((a.nx.getD (l.getD i eS0).1.toNat []).getD x 0), ((b.nx.getD (l.getD i eS0).2.1.toNat []).getD x 0), (l.getD i eS0).2.2 ++ [(x : Int)])]) b.nx.length) a.nx.length ++ X := fun X => uC (by omega) (ug (by omega) (by omega)) (fun j hj hne => qn (by omega) hne)
    refine bu hP hN Try.mixed rfl ?_
    iterate 9 (refine aj rfl fun _ k0 => ?_; simp only [zO, zT, acs, reduceCtorEq, aa, V, ad, ag, af, ae, Mly.av, aw, aW, bt, bl, bg, ar, bP, bK, aB, au, hgP, hrP, hsL]; (repeat refine an ?_); (try refine .inl ?_); apply k0; clear k0; simp only [zP, V, List.append_assoc, bq, b7, ba, hset])
    refine ao ?_
    refine ⟨by kernel_rfl, ?_⟩
    apply k36; clear k36; refine kp [3, 4, 8, 10, 11, 12, 13, 14, 55, 56, 57, 77, 120] ?_
    refine bu hP hN Try.mixed rfl ?_
    iterate 10 (refine aj rfl fun _ k0 => ?_; simp only [zO, zT, acs, reduceCtorEq, aa, V, ad, ag, af, ae, Mly.av, aw, aW, bt, bl, bg, ar, bP, bK, aB, au, hgi]; (repeat refine an ?_); (try refine .inl ?_); apply k0; clear k0; simp only [zP, V, List.append_assoc, bq, b7, ba])
    refine aj rfl fun _ k0 => ?_
    refine aK (h := aC (vS [(l.getD i eS0).2.2, [(x : Int)]] (by rw [qz]; omega))) rfl rfl (by first | exact rfl | (simp only [ev, zP, aa, V]; exact rfl)) (by simp only [zV, acs, reduceCtorEq, aa, V, ad, ag, af, ae, Mly.av, aw, aW, bt, bl, bg, ar, bP, bK, aB, au, hgi]) ?_
    apply k0; clear k0; simp only [zP, V, List.append_assoc, bq, b7, ba]
    iterate 4 (refine aj rfl fun _ k0 => ?_; simp only [zO, zT, acs, reduceCtorEq, aa, V, ad, ag, af, ae, Mly.av, aw, aW, bt, bl, bg, ar, bP, bK, aB, au, hgi]; (repeat refine an ?_); (try refine .inl ?_); apply k0; clear k0; simp only [zP, V, List.append_assoc, bq, b7, ba])
    refine ao ?_
    refine ⟨by kernel_rfl, ?_⟩
    apply k26; clear k26; refine kp [3, 4, 8, 10, 11, 12, 13, 14, 55, 56, 57, 77, 120] ?_
    refine dh [3, 4, 8, 10, 11, 12, 55, 56] ?_; simp only [cJ, lkp, zE, reduceCtorEq, aa]
    refine iJ (L1 := _ :: _ :: _ :: _ :: (_ ++ [_, _])) (by simp only [aN, List.append_assoc, b6]; rfl) hB (by simp [fN, iA, bM, aW]) (by simp [dQ, bM, kg, nh, aW]) ?_
    refine am hP hN rfl ?_
    iterate 2 (refine aj rfl fun _ k0 => ?_; simp only [zO, zT, acs, reduceCtorEq, aa, V, ad, ag, af, ae, Mly.av, aw, aW, bt, bl, bg, ar, bP, bK, aB, au]; (repeat refine an ?_); (try refine .inl ?_); apply k0; clear k0; simp only [zP, V, List.append_assoc, bq, b7, ba])
    refine ao ?_
    first
    | (have hk : inS (dI a b (l.getD i eS0) l x) (a.nxt (l.getD i eS0).1 x) (b.nxt (l.getD i eS0).2.1 x) = true := hkk
       refine ⟨_, _, ?_, aA [3, 4, 8, 10, 11, 12, 55, 56], x + 1, v2, by omega, fun y hy => ?_, hwf.row ha hb hi hil (x + 1) (by omega), rfl, ?_⟩
       · omega
       · by_cases e : y = x
         · rw [e]; exact hdn
         · exact hdf y (by omega)
       · rw [fB, stS, if_pos hk]; first | done | rfl)
    | (have hk : ¬ inS (dI a b (l.getD i eS0) l x) (a.nxt (l.getD i eS0).1 x) (b.nxt (l.getD i eS0).2.1 x) = true := fun hh => Bool.noConfusion (hkn.symm.trans hh)
       refine ⟨_, _, ?_, aA [3, 4, 8, 10, 11, 12, 55, 56], x + 1, v2 + 1, by omega, fun y hy => ?_, hwf.row ha hb hi hil (x + 1) (by omega), rfl, ?_⟩
       · omega
       · by_cases e : y = x
         · rw [e]; exact hdn
         · exact hdf y (by omega)
       · rw [fB, stS, if_neg hk, List.map_append]; simp only [List.flatten_cons, List.flatten_nil, List.append_nil]; rfl)
   (try simp only [zB, reduceCtorEq] at hc35)
   have hkk : inS (dI a b (l.getD i eS0) l x) ((a.nx.getD (l.getD i eS0).1.toNat []).getD x 0) ((b.nx.getD (l.getD i eS0).2.1.toNat []).getD x 0) = true := by
     by_cases e1 : ((a.nx.getD (l.getD i eS0).1.toNat []).getD x 0) = (l.getD i eS0).1 ∧ ((b.nx.getD (l.getD i eS0).2.1.toNat []).getD x 0) = (l.getD i eS0).2.1
     · exact j5.2 ⟨(l.getD i eS0), hEin, e1.1.symm, e1.2.symm⟩
     · cases hX : inS (dI a b (l.getD i eS0) l x) ((a.nx.getD (l.getD i eS0).1.toNat []).getD x 0) ((b.nx.getD (l.getD i eS0).2.1.toNat []).getD x 0) with
       | true => rfl
       | false => exfalso; simp_all
   refine ay ?_
   apply k26; clear k26; refine kp [3, 4, 8, 10, 11, 12, 13, 14, 55, 56, 57, 77, 120] ?_
   refine dh [3, 4, 8, 10, 11, 12, 55, 56] ?_; simp only [cJ, lkp, zE, reduceCtorEq, aa]
   refine iJ (L1 := _ :: _ :: _ :: _ :: (_ ++ [_, _])) (by simp only [aN, List.append_assoc, b6]; rfl) hB (by simp [fN, iA, bM, aW]) (by simp [dQ, bM, kg, nh, aW]) ?_
   refine am hP hN rfl ?_
   iterate 2 (refine aj rfl fun _ k0 => ?_; simp only [zO, zT, acs, reduceCtorEq, aa, V, ad, ag, af, ae, Mly.av, aw, aW, bt, bl, bg, ar, bP, bK, aB, au]; (repeat refine an ?_); (try refine .inl ?_); apply k0; clear k0; simp only [zP, V, List.append_assoc, bq, b7, ba])
   refine ao ?_
   first
   | (have hk : inS (dI a b (l.getD i eS0) l x) (a.nxt (l.getD i eS0).1 x) (b.nxt (l.getD i eS0).2.1 x) = true := hkk
      refine ⟨_, _, ?_, aA [3, 4, 8, 10, 11, 12, 55, 56], x + 1, v2, by omega, fun y hy => ?_, hwf.row ha hb hi hil (x + 1) (by omega), rfl, ?_⟩
      · omega
      · by_cases e : y = x
        · rw [e]; exact hdn
        · exact hdf y (by omega)
      · rw [fB, stS, if_pos hk]; first | done | rfl)
   | (have hk : ¬ inS (dI a b (l.getD i eS0) l x) (a.nxt (l.getD i eS0).1 x) (b.nxt (l.getD i eS0).2.1 x) = true := fun hh => Bool.noConfusion (hkn.symm.trans hh)
      refine ⟨_, _, ?_, aA [3, 4, 8, 10, 11, 12, 55, 56], x + 1, v2 + 1, by omega, fun y hy => ?_, hwf.row ha hb hi hil (x + 1) (by omega), rfl, ?_⟩
      · omega
      · by_cases e : y = x
        · rw [e]; exact hdn
        · exact hdf y (by omega)
      · rw [fB, stS, if_neg hk, List.map_append]; simp only [List.flatten_cons, List.flatten_nil, List.append_nil]; rfl)
  (try simp only [zB, reduceCtorEq] at hc25)
  refine aZ ?_
  apply k19; clear k19; refine kp [3, 4, 8, 10, 11, 12, 55, 56, 57] ?_
  have hbg := hwf.big ha hb
  refine dh [3, 4, 8, 10, 11] ?_; simp only [cJ, lkp, zE, reduceCtorEq, aa]
  refine iJ (L1 := _ :: _ :: _ :: _ :: (_ ++ [_])) (by simp only [aN, List.append_assoc, b6]; rfl) hB (by simp [fN, iA, bM, aW]) (by simp [dQ, bM, kg, nh, aW]) ?_
  refine am hP hN rfl ?_
  iterate 3 (refine aj rfl fun _ k0 => ?_; simp only [zO, zT, acs, reduceCtorEq, aa, V, ad, ag, af, ae, Mly.av, aw, aW, bt, bl, bg, ar, bP, bK, aB, au]; (repeat refine an ?_); (try refine .inl ?_); apply k0; clear k0; simp only [zP, V, List.append_assoc, bq, b7, ba])
  refine ao ?_
  have hil : i < l.length := by omega
  have hbl := hwf.le
  have hge := r7 a b (l.getD i eS0) l x
  have hxe : x = a.inp.toNat := by omega
  subst hxe
  refine ⟨_, _, ?_, aA [3, 4, 8, 10, 11], i + 1, dI a b (l.getD i eS0) l a.inp.toNat, v2, hwr, ?_, by omega, rfl, rfl⟩
  · omega
  · rw [← hsr, show fuS a b - i = (fuS a b - (i + 1)) + 1 by omega, ym hil (fun y hy => hdf y (by omega))]
 (try simp only [zB, reduceCtorEq] at hc18)
 refine aZ ?_
 apply k13; clear k13; refine kp [3, 4, 8, 10, 11, 46] ?_
 refine ah fun _ k37 => ?_
 refine am hP hN rfl ?_
 iterate 2 (refine aj rfl fun _ k0 => ?_; simp only [zO, zT, acs, reduceCtorEq, aa, V, ad, ag, af, ae, Mly.av, aw, aW, bt, bl, bg, ar, bP, bK, aB, au]; (repeat refine an ?_); (try refine .inl ?_); apply k0; clear k0; simp only [zP, V, List.append_assoc, bq, b7, ba])
 refine ao ?_
 apply k37; clear k37; refine kp [3, 4, 6, 7, 8, 10, 11, 46] ?_
 refine aE ?_
 refine ⟨nr, _, rfl, ?_⟩; simp only [zF, zP, aa, V, Mly.av, aw, aW, bt, bl, bg, ar, bP, bK, aB, au]
 first
 | (have hx2 : x < a.inp.toNat := by omega
    rw [← hsr, show fuS a b - i = (fuS a b - (i + 1)) + 1 by omega, pO hil hx2 hdx hdf]
    exact VLE.of_eq (by simp))
 | (rw [← hsr, uS _ _ _ _ _ (by omega)]; exact bE ⟨aF (bo rfl), aF (.refl _), trivial⟩)
theorem iu (m : Mly) : cb Try.prog 48 [m.av] (.one (.int .i64 (aL m))) := by
 refine aT Try.func48 rfl (by kernel_rfl) (Nat.le_of_ble_eq_true rfl) rfl fun C hP hN hB => ?_
 replace hN : C.N = 104 := hN
 simp only [bc, V]
 refine ah fun _ k1 => ?_
 refine am hP hN rfl ?_
 iterate 2 (refine aj rfl fun _ k0 => ?_; simp only [zO, zT, acs, reduceCtorEq, aa, V, ad, ag, af, ae, Mly.av]; (repeat refine an ?_); (try refine .inl ?_); apply k0; clear k0; simp only [zP, V])
 refine ao ?_
 apply k1; clear k1; refine kp [0, 1, 2] ?_
 refine ah fun _ k2 => ?_
 refine am hP hN rfl ?_
 iterate 4 (refine aj rfl fun _ k0 => ?_; simp only [zO, zT, acs, reduceCtorEq, aa, V, ad, ag, af, ae, Mly.av]; (repeat refine an ?_); (try refine .inl ?_); apply k0; clear k0; simp only [zP, V])
 refine ao ?_
 apply k2; clear k2; refine kp [0, 1, 2, 3] ?_
 refine ah fun _ k3 => ?_
 refine aD ?_
 refine ah fun _ k4 => ?_
 refine am hP hN rfl ?_
 iterate 4 (refine aj rfl fun _ k0 => ?_; simp only [zO, zT, acs, reduceCtorEq, aa, V, ad, ag, af, ae, Mly.av]; (repeat refine an ?_); (try refine .inl ?_); apply k0; clear k0; simp only [zP, V])
 refine' aR (want := false) 3 rfl (m := 15) (by simp only [zP, aa, V]; exact rfl) (by kernel_rfl) rfl rfl rfl rfl rfl (fun hg5 => ?a5) ?b5 ?c5
 case a5 =>
  have hq5 := hg5; (try simp only [zB, reduceCtorEq] at hg5); simp only [zE]
  iterate 3 (refine bp rfl fun _ k0 => ?_; simp only [zO, zT, acs, reduceCtorEq, aa, V, ad, ag, af, ae, Mly.av]; (repeat refine an ?_); (try refine .inl ?_); apply k0; clear k0; simp only [zP, V])
  (refine aj rfl fun _ k0 => ?_; simp only [zO, zT, acs, reduceCtorEq, aa, V, ad, ag, af, ae, Mly.av]; (repeat refine an ?_); (try refine .inl ?_); apply k0; clear k0; simp only [zP, V])
  refine ao ?_
  refine ⟨by simp only [zP, aa, V]; exact rfl, rfl, ?_, rfl⟩; (repeat refine aS rfl ?_); exact bB (by exact rfl) hq5
 case b5 => exact cD
 simp only [bh, aY]
 (refine aj rfl fun _ k0 => ?_; simp only [zO, zT, acs, reduceCtorEq, aa, V, ad, ag, af, ae, Mly.av]; (repeat refine an ?_); (try refine .inl ?_); apply k0; clear k0; simp only [zP, V])
 refine ao ?_
 apply k4; clear k4; refine kp [0, 1, 2, 3, 11] ?_
 refine cd (fun hc6 => ?_) (fun hc6 => ?_)
 ·(try simp only [zB, reduceCtorEq] at hc6)
  refine ah fun _ k7 => ?_
  refine am hP hN rfl ?_
  (refine aj rfl fun _ k0 => ?_; simp only [zO, zT, acs, reduceCtorEq, aa, V, ad, ag, af, ae, Mly.av]; (repeat refine an ?_); (try refine .inl ?_); apply k0; clear k0; simp only [zP, V])
  refine ao ?_
  apply k7; clear k7; refine kp [0, 1, 2, 3, 11] ?_
  refine aE ?_
  refine ⟨nr, _, rfl, ?_⟩; simp only [zF, zP, aa, V, Mly.av]
  refine VLE.of_eq ?_
  refine congrArg (fun n => AV.one (AC.int IntKind.i64 n)) ?_
  symm
  unfold aL
  first
  | (rw [if_pos (by omega)]; done)
  | (rw [if_neg (by omega), if_pos (by omega)]; done)
  | (rw [if_neg (by omega), if_neg (by omega), if_pos (by omega)]; done)
  | (rw [if_neg (by omega), if_neg (by omega), if_neg (by omega), if_pos (by omega)]; done)
  | (rw [if_neg (by omega), if_neg (by omega), if_neg (by omega), if_neg (by omega), if_pos (by omega)]; done)
  | (rw [if_neg (by omega), if_neg (by omega), if_neg (by omega), if_neg (by omega), if_neg (by omega)]
     first
     | exact (cE hrows (by omega) (by rw [cY hc32.1 hc32.2 (j := j) (by omega) (by unfold cj; omega)]; decide)).trans (cY hc32.1 hc32.2 (by omega) (by unfold cj; omega))
     | exact (cE hrows (by omega) (by rw [cZ hc32]; decide)).trans (cZ hc32)
     | exact cH fun i hi => hrows i (by omega))
 (try simp only [zB, reduceCtorEq] at hc6)
 refine ah fun _ k8 => ?_
 refine am hP hN rfl ?_
 iterate 3 (refine aj rfl fun _ k0 => ?_; simp only [zO, zT, acs, reduceCtorEq, aa, V, ad, ag, af, ae, Mly.av]; (repeat refine an ?_); (try refine .inl ?_); apply k0; clear k0; simp only [zP, V])
 refine ao ?_
 apply k8; clear k8; refine kp [0, 1, 2, 3, 11, 20] ?_
 refine cd (fun hc9 => ?_) (fun hc9 => ?_)
 ·(try simp only [zB, reduceCtorEq] at hc9)
  refine ah fun _ k10 => ?_
  refine am hP hN rfl ?_
  (refine aj rfl fun _ k0 => ?_; simp only [zO, zT, acs, reduceCtorEq, aa, V, ad, ag, af, ae, Mly.av]; (repeat refine an ?_); (try refine .inl ?_); apply k0; clear k0; simp only [zP, V])
  refine ao ?_
  apply k10; clear k10; refine kp [0, 1, 2, 3, 11, 20] ?_
  refine aE ?_
  refine ⟨nr, _, rfl, ?_⟩; simp only [zF, zP, aa, V, Mly.av]
  refine VLE.of_eq ?_
  refine congrArg (fun n => AV.one (AC.int IntKind.i64 n)) ?_
  symm
  unfold aL
  first
  | (rw [if_pos (by omega)]; done)
  | (rw [if_neg (by omega), if_pos (by omega)]; done)
  | (rw [if_neg (by omega), if_neg (by omega), if_pos (by omega)]; done)
  | (rw [if_neg (by omega), if_neg (by omega), if_neg (by omega), if_pos (by omega)]; done)
  | (rw [if_neg (by omega), if_neg (by omega), if_neg (by omega), if_neg (by omega), if_pos (by omega)]; done)
  | (rw [if_neg (by omega), if_neg (by omega), if_neg (by omega), if_neg (by omega), if_neg (by omega)]
     first
     | exact (cE hrows (by omega) (by rw [cY hc32.1 hc32.2 (j := j) (by omega) (by unfold cj; omega)]; decide)).trans (cY hc32.1 hc32.2 (by omega) (by unfold cj; omega))
     | exact (cE hrows (by omega) (by rw [cZ hc32]; decide)).trans (cZ hc32)
     | exact cH fun i hi => hrows i (by omega))
 (try simp only [zB, reduceCtorEq] at hc9)
 refine ah fun _ k11 => ?_
 refine am hP hN rfl ?_
 iterate 3 (refine aj rfl fun _ k0 => ?_; simp only [zO, zT, acs, reduceCtorEq, aa, V, ad, ag, af, ae, Mly.av]; (repeat refine an ?_); (try refine .inl ?_); apply k0; clear k0; simp only [zP, V])
 refine ao ?_
 apply k11; clear k11; refine kp [0, 1, 2, 3, 11, 20, 23] ?_
 refine cd (fun hc12 => ?_) (fun hc12 => ?_)
 ·(try simp only [zB, reduceCtorEq] at hc12)
  refine ah fun _ k13 => ?_
  refine am hP hN rfl ?_
  (refine aj rfl fun _ k0 => ?_; simp only [zO, zT, acs, reduceCtorEq, aa, V, ad, ag, af, ae, Mly.av]; (repeat refine an ?_); (try refine .inl ?_); apply k0; clear k0; simp only [zP, V])
  refine ao ?_
  apply k13; clear k13; refine kp [0, 1, 2, 3, 11, 20, 23] ?_
  refine aE ?_
  refine ⟨nr, _, rfl, ?_⟩; simp only [zF, zP, aa, V, Mly.av]
  refine VLE.of_eq ?_
  refine congrArg (fun n => AV.one (AC.int IntKind.i64 n)) ?_
  symm
  unfold aL
  first
  | (rw [if_pos (by omega)]; done)
  | (rw [if_neg (by omega), if_pos (by omega)]; done)
  | (rw [if_neg (by omega), if_neg (by omega), if_pos (by omega)]; done)
  | (rw [if_neg (by omega), if_neg (by omega), if_neg (by omega), if_pos (by omega)]; done)
  | (rw [if_neg (by omega), if_neg (by omega), if_neg (by omega), if_neg (by omega), if_pos (by omega)]; done)
  | (rw [if_neg (by omega), if_neg (by omega), if_neg (by omega), if_neg (by omega), if_neg (by omega)]
     first
     | exact (cE hrows (by omega) (by rw [cY hc32.1 hc32.2 (j := j) (by omega) (by unfold cj; omega)]; decide)).trans (cY hc32.1 hc32.2 (by omega) (by unfold cj; omega))
     | exact (cE hrows (by omega) (by rw [cZ hc32]; decide)).trans (cZ hc32)
     | exact cH fun i hi => hrows i (by omega))
 (try simp only [zB, reduceCtorEq] at hc12)
 refine ah fun _ k14 => ?_
 refine am hP hN rfl ?_
 iterate 4 (refine aj rfl fun _ k0 => ?_; simp only [zO, zT, acs, reduceCtorEq, aa, V, ad, ag, af, ae, Mly.av]; (repeat refine an ?_); (try refine .inl ?_); apply k0; clear k0; simp only [zP, V])
 refine' aR (want := false) 4 rfl (m := 30) (by simp only [zP, aa, V]; exact rfl) (by kernel_rfl) rfl rfl rfl rfl rfl (fun hg15 => ?a15) ?b15 ?c15
 case a15 =>
  have hq15 := hg15; (try simp only [zB, reduceCtorEq] at hg15); simp only [zE]
  iterate 4 (refine bp rfl fun _ k0 => ?_; simp only [zO, zT, acs, reduceCtorEq, aa, V, ad, ag, af, ae, Mly.av]; (repeat refine an ?_); (try refine .inl ?_); apply k0; clear k0; simp only [zP, V])
  (refine aj rfl fun _ k0 => ?_; simp only [zO, zT, acs, reduceCtorEq, aa, V, ad, ag, af, ae, Mly.av]; (repeat refine an ?_); (try refine .inl ?_); apply k0; clear k0; simp only [zP, V])
  refine ao ?_
  refine ⟨by simp only [zP, aa, V]; exact rfl, rfl, ?_, rfl⟩; (repeat refine aS rfl ?_); exact bB (by exact rfl) hq15
 case b15 => exact cD
 simp only [bh, aY]
 (refine aj rfl fun _ k0 => ?_; simp only [zO, zT, acs, reduceCtorEq, aa, V, ad, ag, af, ae, Mly.av]; (repeat refine an ?_); (try refine .inl ?_); apply k0; clear k0; simp only [zP, V])
 refine ao ?_
 apply k14; clear k14; refine kp [0, 1, 2, 3, 11, 20, 23, 26] ?_
 refine cd (fun hc16 => ?_) (fun hc16 => ?_)
 ·(try simp only [zB, reduceCtorEq] at hc16)
  refine ah fun _ k17 => ?_
  refine am hP hN rfl ?_
  (refine aj rfl fun _ k0 => ?_; simp only [zO, zT, acs, reduceCtorEq, aa, V, ad, ag, af, ae, Mly.av]; (repeat refine an ?_); (try refine .inl ?_); apply k0; clear k0; simp only [zP, V])
  refine ao ?_
  apply k17; clear k17; refine kp [0, 1, 2, 3, 11, 20, 23, 26] ?_
  refine aE ?_
  refine ⟨nr, _, rfl, ?_⟩; simp only [zF, zP, aa, V, Mly.av]
  refine VLE.of_eq ?_
  refine congrArg (fun n => AV.one (AC.int IntKind.i64 n)) ?_
  symm
  unfold aL
  first
  | (rw [if_pos (by omega)]; done)
  | (rw [if_neg (by omega), if_pos (by omega)]; done)
  | (rw [if_neg (by omega), if_neg (by omega), if_pos (by omega)]; done)
  | (rw [if_neg (by omega), if_neg (by omega), if_neg (by omega), if_pos (by omega)]; done)
  | (rw [if_neg (by omega), if_neg (by omega), if_neg (by omega), if_neg (by omega), if_pos (by omega)]; done)
  | (rw [if_neg (by omega), if_neg (by omega), if_neg (by omega), if_neg (by omega), if_neg (by omega)]
     first
     | exact (cE hrows (by omega) (by rw [cY hc32.1 hc32.2 (j := j) (by omega) (by unfold cj; omega)]; decide)).trans (cY hc32.1 hc32.2 (by omega) (by unfold cj; omega))
     | exact (cE hrows (by omega) (by rw [cZ hc32]; decide)).trans (cZ hc32)
     | exact cH fun i hi => hrows i (by omega))
 (try simp only [zB, reduceCtorEq] at hc16)
 refine ah fun _ k18 => ?_
 refine am hP hN rfl ?_
 iterate 6 (refine aj rfl fun _ k0 => ?_; simp only [zO, zT, acs, reduceCtorEq, aa, V, ad, ag, af, ae, Mly.av]; (repeat refine an ?_); (try refine .inl ?_); apply k0; clear k0; simp only [zP, V])
 refine ao ?_
 apply k18; clear k18; refine kp [0, 1, 2, 3, 11, 20, 23, 26, 36] ?_
 refine cd (fun hc19 => ?_) (fun hc19 => ?_)
 ·(try simp only [zB, reduceCtorEq] at hc19)
  refine ah fun _ k20 => ?_
  refine am hP hN rfl ?_
  (refine aj rfl fun _ k0 => ?_; simp only [zO, zT, acs, reduceCtorEq, aa, V, ad, ag, af, ae, Mly.av]; (repeat refine an ?_); (try refine .inl ?_); apply k0; clear k0; simp only [zP, V])
  refine ao ?_
  apply k20; clear k20; refine kp [0, 1, 2, 3, 11, 20, 23, 26, 36] ?_
  refine aE ?_
  refine ⟨nr, _, rfl, ?_⟩; simp only [zF, zP, aa, V, Mly.av]
  refine VLE.of_eq ?_
  refine congrArg (fun n => AV.one (AC.int IntKind.i64 n)) ?_
  symm
  unfold aL
  first
  | (rw [if_pos (by omega)]; done)
  | (rw [if_neg (by omega), if_pos (by omega)]; done)
  | (rw [if_neg (by omega), if_neg (by omega), if_pos (by omega)]; done)
  | (rw [if_neg (by omega), if_neg (by omega), if_neg (by omega), if_pos (by omega)]; done)
  | (rw [if_neg (by omega), if_neg (by omega), if_neg (by omega), if_neg (by omega), if_pos (by omega)]; done)
  | (rw [if_neg (by omega), if_neg (by omega), if_neg (by omega), if_neg (by omega), if_neg (by omega)]
     first
     | exact (cE hrows (by omega) (by rw [cY hc32.1 hc32.2 (j := j) (by omega) (by unfold cj; omega)]; decide)).trans (cY hc32.1 hc32.2 (by omega) (by unfold cj; omega))
     | exact (cE hrows (by omega) (by rw [cZ hc32]; decide)).trans (cZ hc32)
     | exact cH fun i hi => hrows i (by omega))
 (try simp only [zB, reduceCtorEq] at hc19)
 refine ay ?_
 apply k3; clear k3; refine kp [0, 1, 2, 3, 11, 20, 23, 26, 36] ?_
 refine ah fun _ k21 => ?_
 refine ah fun _ k22 => ?_
 refine am hP hN rfl ?_
 iterate 2 (refine aj rfl fun _ k0 => ?_; simp only [zO, zT, acs, reduceCtorEq, aa, V, ad, ag, af, ae, Mly.av]; (repeat refine an ?_); (try refine .inl ?_); apply k0; clear k0; simp only [zP, V])
 refine ao ?_
 apply k22; clear k22; refine kp [0, 1, 2, 3, 11, 20, 23, 26, 36, 42, 43] ?_
 refine aD ?_
 refine bn (fun n23 s23 => ∃ (k : Nat), (k ≤ m.nx.length) ∧ (∀ i, i < k → j8 m i = 0) ∧ n23 = m.nx.length - k ∧ s23 = { env := [(1, .one (.ptr 0 0 0 0)), (3, .one (.int .i64 (m.nx.length : Int))), (42, .one (.int .i64 (m.nx.length : Int))), (43, .one (.int .i64 (k : Int)))], L := [.vars 24 [.int .i64 m.inp, .int .i64 m.st, .list (.list (.int .i64)) m.nx, .list (.list (.int .i64)) m.ot]] }) ?_ ?_
 ·exact ⟨_, _, aA [1, 3, 42, 43], 0, Nat.zero_le _, fun i hi => by omega, rfl, rfl⟩
 rintro n23 s23 ⟨k, hk, hrows, rfl, rfl⟩
 refine ah fun _ k24 => ?_
 refine am hP hN rfl ?_
 (refine aj rfl fun _ k0 => ?_; simp only [zO, zT, acs, reduceCtorEq, aa, V, ad, ag, af, ae, Mly.av]; (repeat refine an ?_); (try refine .inl ?_); apply k0; clear k0; simp only [zP, V])
 refine ao ?_
 apply k24; clear k24; refine kp [1, 3, 42, 43, 44] ?_
 refine ah fun _ k25 => ?_
 refine cd (fun hc26 => ?_) (fun hc26 => ?_)
 ·(try simp only [zB, reduceCtorEq] at hc26)
  refine ay ?_
  apply k25; clear k25; refine kp [1, 3, 42, 43, 44] ?_
  refine ah fun _ k27 => ?_
  refine aD ?_
  refine ah fun _ k28 => ?_
  refine am hP hN rfl ?_
  iterate 2 (refine aj rfl fun _ k0 => ?_; simp only [zO, zT, acs, reduceCtorEq, aa, V, ad, ag, af, ae, Mly.av]; (repeat refine an ?_); (try refine .inl ?_); apply k0; clear k0; simp only [zP, V])
  refine ao ?_
  apply k28; clear k28; refine kp [1, 3, 4, 42, 43, 44] ?_
  refine ah fun _ k29 => ?_
  refine ah fun _ k30 => ?_
  refine bu hP hN Try.mixed rfl ?_
  iterate 10 (refine aj rfl fun _ k0 => ?_; simp only [zO, zT, acs, reduceCtorEq, aa, V, ad, ag, af, ae, Mly.av]; (repeat refine an ?_); (try refine .inl ?_); apply k0; clear k0; simp only [zP, V])
  refine' aR (want := false) 9 rfl (m := 55) (by simp only [zP, aa, V]; exact rfl) (by kernel_rfl) rfl rfl rfl rfl rfl (fun hg31 => ?a31) ?b31 ?c31
  case a31 =>
   have hq31 := hg31; (try simp only [zB, reduceCtorEq] at hg31); simp only [zE]
   iterate 9 (refine bp rfl fun _ k0 => ?_; simp only [zO, zT, acs, reduceCtorEq, aa, V, ad, ag, af, ae, Mly.av]; (repeat refine an ?_); (try refine .inl ?_); apply k0; clear k0; simp only [zP, V])
   (refine aj rfl fun _ k0 => ?_; simp only [zO, zT, acs, reduceCtorEq, aa, V, ad, ag, af, ae, Mly.av]; (repeat refine an ?_); (try refine .inl ?_); apply k0; clear k0; simp only [zP, V])
   refine ao ?_
   refine ⟨by simp only [zP, aa, V]; exact rfl, rfl, ?_, rfl⟩; (repeat refine aS rfl ?_); exact bB (by exact rfl) hq31
  case b31 => exact cD
  simp only [bh, aY]
  refine ao ?_
  refine ⟨by kernel_rfl, ?_⟩
  apply k30; clear k30; refine kp [1, 3, 4, 42, 43, 44, 65] ?_
  refine cd (fun hc32 => ?_) (fun hc32 => ?_)
  ·(try simp only [zB, reduceCtorEq] at hc32)
   refine ah fun _ k33 => ?_
   refine am hP hN rfl ?_
   (refine aj rfl fun _ k0 => ?_; simp only [zO, zT, acs, reduceCtorEq, aa, V, ad, ag, af, ae, Mly.av]; (repeat refine an ?_); (try refine .inl ?_); apply k0; clear k0; simp only [zP, V])
   refine ao ?_
   apply k33; clear k33; refine kp [1, 2, 3, 4, 42, 43, 44, 65] ?_
   refine aE ?_
   refine ⟨nr, _, rfl, ?_⟩; simp only [zF, zP, aa, V, Mly.av]
   refine VLE.of_eq ?_
   refine congrArg (fun n => AV.one (AC.int IntKind.i64 n)) ?_
   symm
   unfold aL
   first
   | (rw [if_pos (by omega)]; done)
   | (rw [if_neg (by omega), if_pos (by omega)]; done)
   | (rw [if_neg (by omega), if_neg (by omega), if_pos (by omega)]; done)
   | (rw [if_neg (by omega), if_neg (by omega), if_neg (by omega), if_pos (by omega)]; done)
   | (rw [if_neg (by omega), if_neg (by omega), if_neg (by omega), if_neg (by omega), if_pos (by omega)]; done)
   | (rw [if_neg (by omega), if_neg (by omega), if_neg (by omega), if_neg (by omega), if_neg (by omega)]
      first
      | exact (cE hrows (by omega) (by rw [cY hc32.1 hc32.2 (j := j) (by omega) (by unfold cj; omega)]; decide)).trans (cY hc32.1 hc32.2 (by omega) (by unfold cj; omega))
      | exact (cE hrows (by omega) (by rw [cZ hc32]; decide)).trans (cZ hc32)
      | exact cH fun i hi => hrows i (by omega))
  (try simp only [zB, reduceCtorEq] at hc32)
  refine ay ?_
  apply k29; clear k29; refine kp [1, 3, 4, 42, 43, 44, 65] ?_
  refine ah fun _ k34 => ?_
  refine am hP hN rfl ?_
  iterate 3 (refine aj rfl fun _ k0 => ?_; simp only [zO, zT, acs, reduceCtorEq, aa, V, ad, ag, af, ae, Mly.av]; (repeat refine an ?_); (try refine .inl ?_); apply k0; clear k0; simp only [zP, V])
  refine ao ?_
  apply k34; clear k34; refine kp [1, 3, 4, 42, 43, 44, 65, 67, 68] ?_
  refine aD ?_
  refine bn (fun n35 s35 => ∃ (j : Nat), ((j : Int) ≤ m.inp) ∧ (∀ a, a < j → ¬ cj m k a) ∧ n35 = m.inp.toNat - j ∧ s35 = { env := [(1, .one (.ptr 0 0 0 0)), (3, .one (.int .i64 (m.nx.length : Int))), (4, .one (.int .i64 (k : Int))), (42, .one (.int .i64 (m.nx.length : Int))), (43, .one (.int .i64 (k : Int))), (67, .one (.int .i64 m.inp)), (68, .one (.int .i64 (j : Int)))], L := [.vars 24 [.int .i64 m.inp, .int .i64 m.st, .list (.list (.int .i64)) m.nx, .list (.list (.int .i64)) m.ot]] }) ?_ ?_
  ·refine ⟨_, _, aA [1, 3, 4, 42, 43, 67, 68], 0, ?_, fun i hi => by omega, rfl, rfl⟩; omega
  rintro n35 s35 ⟨j, hj, hcells, rfl, rfl⟩
  refine ah fun _ k36 => ?_
  refine am hP hN rfl ?_
  (refine aj rfl fun _ k0 => ?_; simp only [zO, zT, acs, reduceCtorEq, aa, V, ad, ag, af, ae, Mly.av]; (repeat refine an ?_); (try refine .inl ?_); apply k0; clear k0; simp only [zP, V])
  refine ao ?_
  apply k36; clear k36; refine kp [1, 3, 4, 42, 43, 67, 68, 69] ?_
  refine ah fun _ k37 => ?_
  refine cd (fun hc38 => ?_) (fun hc38 => ?_)
  ·(try simp only [zB, reduceCtorEq] at hc38)
   refine ay ?_
   apply k37; clear k37; refine kp [1, 3, 4, 42, 43, 67, 68, 69] ?_
   refine ah fun _ k39 => ?_
   refine aD ?_
   refine ah fun _ k40 => ?_
   refine am hP hN rfl ?_
   iterate 2 (refine aj rfl fun _ k0 => ?_; simp only [zO, zT, acs, reduceCtorEq, aa, V, ad, ag, af, ae, Mly.av]; (repeat refine an ?_); (try refine .inl ?_); apply k0; clear k0; simp only [zP, V])
   refine ao ?_
   apply k40; clear k40; refine kp [1, 3, 4, 5, 42, 43, 67, 68, 69] ?_
   refine ah fun _ k41 => ?_
   refine bu hP hN Try.mixed rfl ?_
   iterate 18 (refine aj rfl fun _ k0 => ?_; simp only [zO, zT, acs, reduceCtorEq, aa, V, ad, ag, af, ae, Mly.av]; (repeat refine an ?_); (try refine .inl ?_); apply k0; clear k0; simp only [zP, V])
   refine ao ?_
   refine ⟨by kernel_rfl, ?_⟩
   apply k41; clear k41; refine kp [1, 3, 4, 5, 6, 7, 42, 43, 67, 68, 69] ?_
   refine ah fun _ k42 => ?_
   refine am hP hN rfl ?_
   iterate 3 (refine aj rfl fun _ k0 => ?_; simp only [zO, zT, acs, reduceCtorEq, aa, V, ad, ag, af, ae, Mly.av]; (repeat refine an ?_); (try refine .inl ?_); apply k0; clear k0; simp only [zP, V])
   refine' aR (want := false) 3 rfl (m := 89) (by simp only [zP, aa, V]; exact rfl) (by kernel_rfl) rfl rfl rfl rfl rfl (fun hg43 => ?a43) ?b43 ?c43
   case a43 =>
    have hq43 := hg43; (try simp only [zB, reduceCtorEq] at hg43); simp only [zE]
    iterate 3 (refine bp rfl fun _ k0 => ?_; simp only [zO, zT, acs, reduceCtorEq, aa, V, ad, ag, af, ae, Mly.av]; (repeat refine an ?_); (try refine .inl ?_); apply k0; clear k0; simp only [zP, V])
    (refine aj rfl fun _ k0 => ?_; simp only [zO, zT, acs, reduceCtorEq, aa, V, ad, ag, af, ae, Mly.av]; (repeat refine an ?_); (try refine .inl ?_); apply k0; clear k0; simp only [zP, V])
    refine ao ?_
    refine ⟨by simp only [zP, aa, V]; exact rfl, rfl, ?_, rfl⟩; (repeat refine aS rfl ?_); exact bB (by exact rfl) hq43
   case b43 => exact cD
   simp only [bh, aY]
   (refine aj rfl fun _ k0 => ?_; simp only [zO, zT, acs, reduceCtorEq, aa, V, ad, ag, af, ae, Mly.av]; (repeat refine an ?_); (try refine .inl ?_); apply k0; clear k0; simp only [zP, V])
   refine' aR (want := false) 2 rfl (m := 94) (by simp only [zP, aa, V]; exact rfl) (by kernel_rfl) rfl rfl rfl rfl rfl (fun hg44 => ?a44) ?b44 ?c44
   case a44 =>
    have hq44 := hg44; (try simp only [zB, reduceCtorEq] at hg44); simp only [zE]
    iterate 2 (refine bp rfl fun _ k0 => ?_; simp only [zO, zT, acs, reduceCtorEq, aa, V, ad, ag, af, ae, Mly.av]; (repeat refine an ?_); (try refine .inl ?_); apply k0; clear k0; simp only [zP, V])
    (refine aj rfl fun _ k0 => ?_; simp only [zO, zT, acs, reduceCtorEq, aa, V, ad, ag, af, ae, Mly.av]; (repeat refine an ?_); (try refine .inl ?_); apply k0; clear k0; simp only [zP, V])
    refine ao ?_
    refine ⟨by simp only [zP, aa, V]; exact rfl, rfl, ?_, rfl⟩; (repeat refine aS rfl ?_); exact bB (by exact rfl) hq44
   case b44 => exact cD
   simp only [bh, aY]
   (refine aj rfl fun _ k0 => ?_; simp only [zO, zT, acs, reduceCtorEq, aa, V, ad, ag, af, ae, Mly.av]; (repeat refine an ?_); (try refine .inl ?_); apply k0; clear k0; simp only [zP, V])
   refine' aR (want := false) 2 rfl (m := 98) (by simp only [zP, aa, V]; exact rfl) (by kernel_rfl) rfl rfl rfl rfl rfl (fun hg45 => ?a45) ?b45 ?c45
   case a45 =>
    have hq45 := hg45; (try simp only [zB, reduceCtorEq] at hg45); simp only [zE]
    iterate 2 (refine bp rfl fun _ k0 => ?_; simp only [zO, zT, acs, reduceCtorEq, aa, V, ad, ag, af, ae, Mly.av]; (repeat refine an ?_); (try refine .inl ?_); apply k0; clear k0; simp only [zP, V])
    (refine aj rfl fun _ k0 => ?_; simp only [zO, zT, acs, reduceCtorEq, aa, V, ad, ag, af, ae, Mly.av]; (repeat refine an ?_); (try refine .inl ?_); apply k0; clear k0; simp only [zP, V])
    refine ao ?_
    refine ⟨by simp only [zP, aa, V]; exact rfl, rfl, ?_, rfl⟩; (repeat refine aS rfl ?_); exact bB (by exact rfl) hq45
   case b45 => exact cD
   simp only [bh, aY]
   refine ao ?_
   apply k42; clear k42; refine kp [1, 3, 4, 5, 6, 7, 42, 43, 67, 68, 69, 101] ?_
   refine cd (fun hc46 => ?_) (fun hc46 => ?_)
   ·(try simp only [zB, reduceCtorEq] at hc46)
    refine ah fun _ k47 => ?_
    refine am hP hN rfl ?_
    (refine aj rfl fun _ k0 => ?_; simp only [zO, zT, acs, reduceCtorEq, aa, V, ad, ag, af, ae, Mly.av]; (repeat refine an ?_); (try refine .inl ?_); apply k0; clear k0; simp only [zP, V])
    refine ao ?_
    apply k47; clear k47; refine kp [1, 2, 3, 4, 5, 6, 7, 42, 43, 67, 68, 69, 101] ?_
    refine aE ?_
    refine ⟨nr, _, rfl, ?_⟩; simp only [zF, zP, aa, V, Mly.av]
    refine VLE.of_eq ?_
    refine congrArg (fun n => AV.one (AC.int IntKind.i64 n)) ?_
    symm
    unfold aL
    first
    | (rw [if_pos (by omega)]; done)
    | (rw [if_neg (by omega), if_pos (by omega)]; done)
    | (rw [if_neg (by omega), if_neg (by omega), if_pos (by omega)]; done)
    | (rw [if_neg (by omega), if_neg (by omega), if_neg (by omega), if_pos (by omega)]; done)
    | (rw [if_neg (by omega), if_neg (by omega), if_neg (by omega), if_neg (by omega), if_pos (by omega)]; done)
    | (rw [if_neg (by omega), if_neg (by omega), if_neg (by omega), if_neg (by omega), if_neg (by omega)]
       first
       | exact (cE hrows (by omega) (by rw [cY hc32.1 hc32.2 (j := j) (by omega) (by unfold cj; omega)]; decide)).trans (cY hc32.1 hc32.2 (by omega) (by unfold cj; omega))
       | exact (cE hrows (by omega) (by rw [cZ hc32]; decide)).trans (cZ hc32)
       | exact cH fun i hi => hrows i (by omega))
   (try simp only [zB, reduceCtorEq] at hc46)
   refine ay ?_
   apply k39; clear k39; refine kp [1, 3, 4, 5, 6, 7, 42, 43, 67, 68, 69, 101] ?_
   refine am hP hN rfl ?_
   iterate 2 (refine aj rfl fun _ k0 => ?_; simp only [zO, zT, acs, reduceCtorEq, aa, V, ad, ag, af, ae, Mly.av]; (repeat refine an ?_); (try refine .inl ?_); apply k0; clear k0; simp only [zP, V])
   refine ao ?_
   refine ⟨_, _, ?_, aA [1, 3, 4, 42, 43, 67, 68], j + 1, ?_, fun a ha => ?_, rfl, rfl⟩
   · omega
   · omega
   · by_cases e : a = j
     · rw [e]; unfold cj; omega
     · exact hcells a (by omega)
  (try simp only [zB, reduceCtorEq] at hc38)
  refine aZ ?_
  apply k27; clear k27; refine kp [1, 3, 4, 42, 43, 67, 68, 69] ?_
  refine am hP hN rfl ?_
  iterate 2 (refine aj rfl fun _ k0 => ?_; simp only [zO, zT, acs, reduceCtorEq, aa, V, ad, ag, af, ae, Mly.av]; (repeat refine an ?_); (try refine .inl ?_); apply k0; clear k0; simp only [zP, V])
  refine ao ?_
  refine ⟨_, _, ?_, aA [1, 3, 42, 43], k + 1, by omega, fun i hi => ?_, rfl, rfl⟩
  · omega
  · by_cases e : i = k
    · rw [e]; exact mN hc32.1 hc32.2 fun a ha => hcells a (by omega)
    · exact hrows i (by omega)
 (try simp only [zB, reduceCtorEq] at hc26)
 refine aZ ?_
 apply k21; clear k21; refine kp [1, 3, 42, 43, 44] ?_
 refine ah fun _ k48 => ?_
 refine am hP hN rfl ?_
 (refine aj rfl fun _ k0 => ?_; simp only [zO, zT, acs, reduceCtorEq, aa, V, ad, ag, af, ae, Mly.av]; (repeat refine an ?_); (try refine .inl ?_); apply k0; clear k0; simp only [zP, V])
 refine ao ?_
 apply k48; clear k48; refine kp [1, 2, 3, 42, 43, 44] ?_
 refine aE ?_
 refine ⟨nr, _, rfl, ?_⟩; simp only [zF, zP, aa, V, Mly.av]
 refine VLE.of_eq ?_
 refine congrArg (fun n => AV.one (AC.int IntKind.i64 n)) ?_
 symm
 unfold aL
 first
 | (rw [if_pos (by omega)]; done)
 | (rw [if_neg (by omega), if_pos (by omega)]; done)
 | (rw [if_neg (by omega), if_neg (by omega), if_pos (by omega)]; done)
 | (rw [if_neg (by omega), if_neg (by omega), if_neg (by omega), if_pos (by omega)]; done)
 | (rw [if_neg (by omega), if_neg (by omega), if_neg (by omega), if_neg (by omega), if_pos (by omega)]; done)
 | (rw [if_neg (by omega), if_neg (by omega), if_neg (by omega), if_neg (by omega), if_neg (by omega)]
    first
    | exact (cE hrows (by omega) (by rw [cY hc32.1 hc32.2 (j := j) (by omega) (by unfold cj; omega)]; decide)).trans (cY hc32.1 hc32.2 (by omega) (by unfold cj; omega))
    | exact (cE hrows (by omega) (by rw [cZ hc32]; decide)).trans (cZ hc32)
    | exact cH fun i hi => hrows i (by omega))
theorem CA (m : Mly) (s t : Int) : cb Try.prog 30 [m.av, .one (.int .i64 s), .one (.int .i64 t)] (.tup [.one (.list (.int .i64) ((stW m s t).getD [])), .one (.bool (stW m s t).isSome), .one (.int .i64 (stE m s t))]) := by
 refine aT Try.func30 rfl (by kernel_rfl) (Nat.le_of_ble_eq_true rfl) rfl fun C hP hN hB => ?_
 replace hN : C.N = 48 := hN
 simp only [bc, V]
 refine ah fun _ k1 => ?_
 refine am hP hN rfl ?_
 iterate 4 (refine aj rfl fun _ k0 => ?_; simp only [zO, zT, acs, reduceCtorEq, aa, V, ad, ag, af, ae, Mly.av]; (repeat refine an ?_); (try refine .inl ?_); apply k0; clear k0; simp only [zP, V])
 refine ao ?_
 apply k1; clear k1; refine kp [0, 1, 2, 3, 6, 7, 8] ?_
 refine ah fun _ k2 => ?_
 refine ah fun _ k3 => ?_
 refine am hP hN rfl ?_
 (refine aj rfl fun _ k0 => ?_; simp only [zO, zT, acs, reduceCtorEq, aa, V, ad, ag, af, ae, Mly.av]; (repeat refine an ?_); (try refine .inl ?_); apply k0; clear k0; simp only [zP, V])
 refine aj rfl fun _ k0 => ?_
 refine aK (h := aC (iu m)) rfl rfl (by first | exact rfl | (simp only [ev, zP, aa, V]; exact rfl)) (by simp only [zV, acs, reduceCtorEq, aa, V, ad, ag, af, ae, Mly.av]) ?_
 apply k0; clear k0; simp only [zP, V]
 (refine aj rfl fun _ k0 => ?_; simp only [zO, zT, acs, reduceCtorEq, aa, V, ad, ag, af, ae, Mly.av]; (repeat refine an ?_); (try refine .inl ?_); apply k0; clear k0; simp only [zP, V])
 refine ao ?_
 apply k3; clear k3; refine kp [0, 1, 2, 3, 6, 7, 8, 9] ?_
 refine ah fun _ k4 => ?_
 refine am hP hN rfl ?_
 iterate 2 (refine aj rfl fun _ k0 => ?_; simp only [zO, zT, acs, reduceCtorEq, aa, V, ad, ag, af, ae, Mly.av]; (repeat refine an ?_); (try refine .inl ?_); apply k0; clear k0; simp only [zP, V])
 refine ao ?_
 apply k4; clear k4; refine kp [0, 1, 2, 3, 6, 7, 8, 9, 15] ?_
 refine cd (fun hc5 => ?_) (fun hc5 => ?_)
 ·(try simp only [zB, reduceCtorEq] at hc5)
  refine ah fun _ k6 => ?_
  refine am hP hN rfl ?_
  iterate 4 (refine aj rfl fun _ k0 => ?_; simp only [zO, zT, acs, reduceCtorEq, aa, V, ad, ag, af, ae, Mly.av]; (repeat refine an ?_); (try refine .inl ?_); apply k0; clear k0; simp only [zP, V])
  refine ao ?_
  apply k6; clear k6; refine kp [0, 1, 2, 3, 6, 7, 8, 9, 15] ?_
  refine aE ?_
  refine ⟨nr, _, rfl, ?_⟩; simp only [zF, zP, aa, V, Mly.av]
  unfold stW stE
  first
  | (rw [if_neg ‹¬aL m = 0›, if_neg (fun hh => ‹¬aL m = 0› hh.1)]; exact bE ⟨aF (bo rfl), aF (.refl _), aF (.refl _), trivial⟩)
  | (rw [if_pos ‹aL m = 0›, if_neg (fun hh => by omega), if_neg (by omega)]; exact bE ⟨aF (bo rfl), aF (.refl _), aF (.refl _), trivial⟩)
  | (rw [if_pos ‹aL m = 0›, if_pos (by refine ⟨by assumption, ?_⟩; omega), if_pos (by omega)]; exact bE ⟨aF (.refl _), aF (.refl _), aF (.refl _), trivial⟩)
 (try simp only [zB, reduceCtorEq] at hc5)
 refine ay ?_
 apply k2; clear k2; refine kp [0, 1, 2, 3, 6, 7, 8, 9, 15] ?_
 refine ah fun _ k7 => ?_
 refine ah fun _ k8 => ?_
 refine am hP hN rfl ?_
 iterate 3 (refine aj rfl fun _ k0 => ?_; simp only [zO, zT, acs, reduceCtorEq, aa, V, ad, ag, af, ae, Mly.av]; (repeat refine an ?_); (try refine .inl ?_); apply k0; clear k0; simp only [zP, V])
 refine' aR (want := false) 5 rfl (m := 19) (by simp only [zP, aa, V]; exact rfl) (by kernel_rfl) rfl rfl rfl rfl rfl (fun hg9 => ?a9) ?b9 ?c9
 case a9 =>
  have hq9 := hg9; (try simp only [zB, reduceCtorEq] at hg9); simp only [zE]
  iterate 5 (refine bp rfl fun _ k0 => ?_; simp only [zO, zT, acs, reduceCtorEq, aa, V, ad, ag, af, ae, Mly.av]; (repeat refine an ?_); (try refine .inl ?_); apply k0; clear k0; simp only [zP, V])
  (refine aj rfl fun _ k0 => ?_; simp only [zO, zT, acs, reduceCtorEq, aa, V, ad, ag, af, ae, Mly.av]; (repeat refine an ?_); (try refine .inl ?_); apply k0; clear k0; simp only [zP, V])
  refine ao ?_
  refine ⟨by simp only [zP, aa, V]; exact rfl, rfl, ?_, rfl⟩; (repeat refine aS rfl ?_); exact bB (by exact rfl) hq9
 case b9 => exact cD
 simp only [bh, aY]
 (refine aj rfl fun _ k0 => ?_; simp only [zO, zT, acs, reduceCtorEq, aa, V, ad, ag, af, ae, Mly.av]; (repeat refine an ?_); (try refine .inl ?_); apply k0; clear k0; simp only [zP, V])
 refine' aR (want := false) 2 rfl (m := 26) (by simp only [zP, aa, V]; exact rfl) (by kernel_rfl) rfl rfl rfl rfl rfl (fun hg10 => ?a10) ?b10 ?c10
 case a10 =>
  have hq10 := hg10; (try simp only [zB, reduceCtorEq] at hg10); simp only [zE]
  iterate 2 (refine bp rfl fun _ k0 => ?_; simp only [zO, zT, acs, reduceCtorEq, aa, V, ad, ag, af, ae, Mly.av]; (repeat refine an ?_); (try refine .inl ?_); apply k0; clear k0; simp only [zP, V])
  (refine aj rfl fun _ k0 => ?_; simp only [zO, zT, acs, reduceCtorEq, aa, V, ad, ag, af, ae, Mly.av]; (repeat refine an ?_); (try refine .inl ?_); apply k0; clear k0; simp only [zP, V])
  refine ao ?_
  refine ⟨by simp only [zP, aa, V]; exact rfl, rfl, ?_, rfl⟩; (repeat refine aS rfl ?_); exact bB (by exact rfl) hq10
 case b10 => exact cD
 simp only [bh, aY]
 (refine aj rfl fun _ k0 => ?_; simp only [zO, zT, acs, reduceCtorEq, aa, V, ad, ag, af, ae, Mly.av]; (repeat refine an ?_); (try refine .inl ?_); apply k0; clear k0; simp only [zP, V])
 refine' aR (want := false) 5 rfl (m := 30) (by simp only [zP, aa, V]; exact rfl) (by kernel_rfl) rfl rfl rfl rfl rfl (fun hg11 => ?a11) ?b11 ?c11
 case a11 =>
  have hq11 := hg11; (try simp only [zB, reduceCtorEq] at hg11); simp only [zE]
  iterate 5 (refine bp rfl fun _ k0 => ?_; simp only [zO, zT, acs, reduceCtorEq, aa, V, ad, ag, af, ae, Mly.av]; (repeat refine an ?_); (try refine .inl ?_); apply k0; clear k0; simp only [zP, V])
  (refine aj rfl fun _ k0 => ?_; simp only [zO, zT, acs, reduceCtorEq, aa, V, ad, ag, af, ae, Mly.av]; (repeat refine an ?_); (try refine .inl ?_); apply k0; clear k0; simp only [zP, V])
  refine ao ?_
  refine ⟨by simp only [zP, aa, V]; exact rfl, rfl, ?_, rfl⟩; (repeat refine aS rfl ?_); exact bB (by exact rfl) hq11
 case b11 => exact cD
 simp only [bh, aY]
 refine ao ?_
 apply k8; clear k8; refine kp [0, 1, 2, 3, 6, 7, 8, 9, 15, 36] ?_
 refine cd (fun hc12 => ?_) (fun hc12 => ?_)
 ·(try simp only [zB, reduceCtorEq] at hc12)
  refine ah fun _ k13 => ?_
  refine am hP hN rfl ?_
  iterate 3 (refine aj rfl fun _ k0 => ?_; simp only [zO, zT, acs, reduceCtorEq, aa, V, ad, ag, af, ae, Mly.av]; (repeat refine an ?_); (try refine .inl ?_); apply k0; clear k0; simp only [zP, V])
  refine ao ?_
  apply k13; clear k13; refine kp [0, 1, 2, 3, 6, 7, 8, 9, 15, 36] ?_
  refine aE ?_
  refine ⟨nr, _, rfl, ?_⟩; simp only [zF, zP, aa, V, Mly.av]
  unfold stW stE
  first
  | (rw [if_neg ‹¬aL m = 0›, if_neg (fun hh => ‹¬aL m = 0› hh.1)]; exact bE ⟨aF (bo rfl), aF (.refl _), aF (.refl _), trivial⟩)
  | (rw [if_pos ‹aL m = 0›, if_neg (fun hh => by omega), if_neg (by omega)]; exact bE ⟨aF (bo rfl), aF (.refl _), aF (.refl _), trivial⟩)
  | (rw [if_pos ‹aL m = 0›, if_pos (by refine ⟨by assumption, ?_⟩; omega), if_pos (by omega)]; exact bE ⟨aF (.refl _), aF (.refl _), aF (.refl _), trivial⟩)
 (try simp only [zB, reduceCtorEq] at hc12)
 refine ay ?_
 apply k7; clear k7; refine kp [0, 1, 2, 3, 6, 7, 8, 9, 15, 36] ?_
 refine ah fun _ k14 => ?_
 refine am hP hN rfl ?_
 iterate 5 (refine aj rfl fun _ k0 => ?_; simp only [zO, zT, acs, reduceCtorEq, aa, V, ad, ag, af, ae, Mly.av]; (repeat refine an ?_); (try refine .inl ?_); apply k0; clear k0; simp only [zP, V])
 refine aj rfl fun _ k0 => ?_
 refine aK (h := aC (yW m m s t (eJ (by assumption)) (eJ (by assumption)) rfl (by omega) (by omega))) rfl rfl (by first | exact rfl | (simp only [ev, zP, aa, V]; exact rfl)) (by simp only [zV, acs, reduceCtorEq, aa, V, ad, ag, af, ae, Mly.av]) ?_
 apply k0; clear k0; simp only [zP, V]
 iterate 5 (refine aj rfl fun _ k0 => ?_; simp only [zO, zT, acs, reduceCtorEq, aa, V, ad, ag, af, ae, Mly.av]; (repeat refine an ?_); (try refine .inl ?_); apply k0; clear k0; simp only [zP, V])
 refine ao ?_
 apply k14; clear k14; refine kp [0, 1, 2, 3, 6, 7, 8, 9, 10, 11, 15, 36] ?_
 refine ah fun _ k15 => ?_
 refine am hP hN rfl ?_
 iterate 5 (refine aj rfl fun _ k0 => ?_; simp only [zO, zT, acs, reduceCtorEq, aa, V, ad, ag, af, ae, Mly.av]; (repeat refine an ?_); (try refine .inl ?_); apply k0; clear k0; simp only [zP, V])
 refine ao ?_
 apply k15; clear k15; refine kp [0, 1, 2, 3, 6, 7, 8, 9, 10, 11, 15, 36] ?_
 refine aE ?_
 refine ⟨nr, _, rfl, ?_⟩; simp only [zF, zP, aa, V, Mly.av]
 unfold stW stE
 first
 | (rw [if_neg ‹¬aL m = 0›, if_neg (fun hh => ‹¬aL m = 0› hh.1)]; exact bE ⟨aF (bo rfl), aF (.refl _), aF (.refl _), trivial⟩)
 | (rw [if_pos ‹aL m = 0›, if_neg (fun hh => by omega), if_neg (by omega)]; exact bE ⟨aF (bo rfl), aF (.refl _), aF (.refl _), trivial⟩)
 | (rw [if_pos ‹aL m = 0›, if_pos (by refine ⟨by assumption, ?_⟩; omega), if_pos (by omega)]; exact bE ⟨aF (.refl _), aF (.refl _), aF (.refl _), trivial⟩)
theorem B9 (m : Mly) (s t : Int) (hm : MOK m) (hs : 0 ≤ s ∧ s < m.nx.length) (ht : 0 ≤ t ∧ t < m.nx.length) : cb Try.prog 30 [m.av, .one (.int .i64 s), .one (.int .i64 t)] (.tup [.one (.list (.int .i64) ((seS m m s t).getD [])), .one (.bool (seS m m s t).isSome), .one (.int .i64 0)]) := by
  have h := CA m s t
  unfold stW stE at h
  have hv := dv hm
  rw [if_pos ⟨hv, hs, ht⟩, if_pos hv, if_pos ⟨hs, ht⟩] at h
  exact h

theorem z7 (m : Mly) (cl : List Int) (hm : MOK m) (hl : cl.length = m.nx.length) (hr : ∀ s, s < m.nx.length → 0 ≤ cl.getD s 0 ∧ cl.getD s 0 < m.nx.length) : cb Try.prog 108 [m.av, .one (.list (.int .i64) cl)] (.tup [.one (.list (.int .i64) (m.nextL cl)), .one (.int .i64 (m.nextN cl))]) := by
 have hn2 := hm.n2; have hi2 := hm.i2; have hi1 := hm.i1; have hol := hm.ol
 refine aT Try.func108 rfl (by kernel_rfl) (Nat.le_of_ble_eq_true rfl) rfl fun C hP hN hB => ?_
 replace hN : C.N = 73 := hN
 simp only [bc, V]
 refine ah fun _ k1 => ?_
 refine am hP hN rfl ?_
 iterate 3 (refine aj rfl fun _ k0 => ?_; simp only [zO, zT, acs, reduceCtorEq, aa, V, ad, ag, af, ae, Mly.av, bI, bS, bD, bQ, bJ, List.length_set]; (repeat refine an ?_); (try refine .inl ?_); apply k0; clear k0; simp only [zP, V])
 refine ao ?_
 apply k1; clear k1; refine kp [0, 1, 2, 4, 5] ?_
 refine ah fun _ k2 => ?_
 refine am hP hN rfl ?_
 (refine aj rfl fun _ k0 => ?_; simp only [zE, op1, ev, lkp, d7, ca, jz, reduceCtorEq, aa, V, ad, ag, af, ae, Try.mk157, Mly.av, bI, bS, bD, bQ, bJ, List.length_set]; (repeat refine an ?_); (try refine .inl ?_); apply k0; clear k0; simp only [zP, V])
 (refine aj rfl fun _ k0 => ?_; simp only [zO, zT, acs, reduceCtorEq, aa, V, ad, ag, af, ae, Mly.av, bI, bS, bD, bQ, bJ, List.length_set]; (repeat refine an ?_); (try refine .inl ?_); apply k0; clear k0; simp only [zP, V])
 refine ao ?_
 apply k2; clear k2; refine kp [0, 1, 2, 4, 5, 6] ?_
 refine ah fun _ k3 => ?_
 refine am hP hN rfl ?_
 iterate 2 (refine aj rfl fun _ k0 => ?_; simp only [zO, zT, acs, reduceCtorEq, aa, V, ad, ag, af, ae, Mly.av, bI, bS, bD, bQ, bJ, List.length_set]; (repeat refine an ?_); (try refine .inl ?_); apply k0; clear k0; simp only [zP, V])
 (refine aj rfl fun _ k0 => ?_; simp only [zE, op1, ev, lkp, d7, ca, cq, fb, eB, cP, db, eH, Nat.div_one, cM, dg, Ty.size, bC, dite_true, cR, Ty.dflt, reduceCtorEq, aa, V, ad, ag, af, ae, Try.el41, Try.td3, Try.td41, Mly.av, bI, bS, bD, bQ, bJ, List.length_set]; (repeat refine an ?_); (try refine .inl ?_); apply k0; clear k0; simp only [zP, V])
 (refine aj rfl fun _ k0 => ?_; simp only [zO, zT, acs, reduceCtorEq, aa, V, ad, ag, af, ae, Mly.av, bI, bS, bD, bQ, bJ, List.length_set]; (repeat refine an ?_); (try refine .inl ?_); apply k0; clear k0; simp only [zP, V])
 refine ao ?_
 apply k3; clear k3; refine kp [0, 1, 2, 4, 5, 6, 7] ?_
 refine ah fun _ k4 => ?_
 refine ah fun _ k5 => ?_
 refine am hP hN rfl ?_
 iterate 3 (refine aj rfl fun _ k0 => ?_; simp only [zO, zT, acs, reduceCtorEq, aa, V, ad, ag, af, ae, Mly.av, bI, bS, bD, bQ, bJ, List.length_set]; (repeat refine an ?_); (try refine .inl ?_); apply k0; clear k0; simp only [zP, V])
 refine ao ?_
 apply k5; clear k5; refine kp [0, 1, 2, 4, 5, 6, 7, 18, 19] ?_
 refine aD ?_
 refine bn (fun n6 s6 => ∃ (k : Nat), (k ≤ m.nx.length) ∧ n6 = m.nx.length - k ∧ s6 = { env := [(1, .one (.list (.int .i64) cl)), (2, .one (.ptr 0 0 0 0)), (6, .one (.mpv 1)), (7, .one (.row 2 0)), (18, .one (.int .i64 (cl.length : Int))), (19, .one (.int .i64 (k : Int)))], L := [.vars 24 [.int .i64 m.inp, .int .i64 m.st, .list (.list (.int .i64)) m.nx, .list (.list (.int .i64)) m.ot], .mp 157 .int (om (dj (m.sig cl) k)), .row (.int .i64) 3 0 (iP (fun s => (pos (dj (m.sig cl) m.nx.length) (m.sig cl s) : Int)) 0 m.nx.length k)] }) ?_ ?_
 ·refine ⟨_, _, aA [1, 2, 6, 7, 18, 19], 0, Nat.zero_le _, rfl, ?_⟩
  rw [pz, hl]; rfl
 rintro n6 s6 ⟨k, hk, rfl, rfl⟩
 refine ah fun _ k7 => ?_
 refine am hP hN rfl ?_
 (refine aj rfl fun _ k0 => ?_; simp only [zO, zT, acs, reduceCtorEq, aa, V, ad, ag, af, ae, Mly.av, bI, bS, bD, bQ, bJ, List.length_set]; (repeat refine an ?_); (try refine .inl ?_); apply k0; clear k0; simp only [zP, V])
 refine ao ?_
 apply k7; clear k7; refine kp [1, 2, 6, 7, 18, 19, 20] ?_
 refine ah fun _ k8 => ?_
 refine cd (fun hc9 => ?_) (fun hc9 => ?_)
 ·(try simp only [zB, reduceCtorEq] at hc9)
  refine ay ?_
  apply k8; clear k8; refine kp [1, 2, 6, 7, 18, 19, 20] ?_
  refine ah fun _ k10 => ?_
  refine aD ?_
  refine ah fun _ k11 => ?_
  refine am hP hN rfl ?_
  iterate 2 (refine aj rfl fun _ k0 => ?_; simp only [zO, zT, acs, reduceCtorEq, aa, V, ad, ag, af, ae, Mly.av, bI, bS, bD, bQ, bJ, List.length_set]; (repeat refine an ?_); (try refine .inl ?_); apply k0; clear k0; simp only [zP, V])
  refine ao ?_
  apply k11; clear k11; refine kp [1, 2, 6, 7, 8, 18, 19, 20] ?_
  refine ah fun _ k12 => ?_
  refine am hP hN rfl ?_
  (refine aj rfl fun _ k0 => ?_; simp only [zO, zT, acs, reduceCtorEq, aa, V, ad, ag, af, ae, Mly.av, bI, bS, bD, bQ, bJ, List.length_set]; (repeat refine an ?_); (try refine .inl ?_); apply k0; clear k0; simp only [zP, V])
  refine ao ?_
  apply k12; clear k12; refine kp [1, 2, 6, 7, 8, 9, 18, 19, 20] ?_
  refine ah fun _ k13 => ?_
  refine ah fun _ k14 => ?_
  refine am hP hN rfl ?_
  iterate 3 (refine aj rfl fun _ k0 => ?_; simp only [zO, zT, acs, reduceCtorEq, aa, V, ad, ag, af, ae, Mly.av, bI, bS, bD, bQ, bJ, List.length_set]; (repeat refine an ?_); (try refine .inl ?_); apply k0; clear k0; simp only [zP, V])
  refine ao ?_
  apply k14; clear k14; refine kp [1, 2, 6, 7, 8, 9, 18, 19, 20, 23, 24] ?_
  refine aD ?_
  refine bn (fun n15 s15 => ∃ (a : Nat), ((a : Int) ≤ m.inp) ∧ n15 = m.inp.toNat - a ∧ s15 = { env := [(1, .one (.list (.int .i64) cl)), (2, .one (.ptr 0 0 0 0)), (6, .one (.mpv 1)), (7, .one (.row 2 0)), (8, .one (.int .i64 (k : Int))), (9, .one (.ptr 3 0 0 0)), (18, .one (.int .i64 (cl.length : Int))), (19, .one (.int .i64 (k : Int))), (23, .one (.int .i64 m.inp)), (24, .one (.int .i64 (a : Int)))], L := [.vars 24 [.int .i64 m.inp, .int .i64 m.st, .list (.list (.int .i64)) m.nx, .list (.list (.int .i64)) m.ot], .mp 157 .int (om (dj (m.sig cl) k)), .row (.int .i64) 3 0 (iP (fun s => (pos (dj (m.sig cl) m.nx.length) (m.sig cl s) : Int)) 0 m.nx.length k), .vars 159 (fu (m.sigP cl a k))] }) ?_ ?_
  ·refine ⟨_, _, aA [1, 2, 6, 7, 8, 9, 18, 19, 23, 24], 0, by omega, rfl, ?_⟩
   rw [← wx, ← vj]; rfl
  rintro n15 s15 ⟨a, ha, rfl, rfl⟩
  refine ah fun _ k16 => ?_
  refine am hP hN rfl ?_
  (refine aj rfl fun _ k0 => ?_; simp only [zO, zT, acs, reduceCtorEq, aa, V, ad, ag, af, ae, Mly.av, bI, bS, bD, bQ, bJ, List.length_set]; (repeat refine an ?_); (try refine .inl ?_); apply k0; clear k0; simp only [zP, V])
  refine ao ?_
  apply k16; clear k16; refine kp [1, 2, 6, 7, 8, 9, 18, 19, 23, 24, 25] ?_
  refine ah fun _ k17 => ?_
  refine cd (fun hc18 => ?_) (fun hc18 => ?_)
  ·(try simp only [zB, reduceCtorEq] at hc18)
   refine ay ?_
   apply k17; clear k17; refine kp [1, 2, 6, 7, 8, 9, 18, 19, 23, 24, 25] ?_
   refine ah fun _ k19 => ?_
   refine aD ?_
   refine ah fun _ k20 => ?_
   refine am hP hN rfl ?_
   iterate 2 (refine aj rfl fun _ k0 => ?_; simp only [zO, zT, acs, reduceCtorEq, aa, V, ad, ag, af, ae, Mly.av, bI, bS, bD, bQ, bJ, List.length_set]; (repeat refine an ?_); (try refine .inl ?_); apply k0; clear k0; simp only [zP, V])
   refine ao ?_
   apply k20; clear k20; refine kp [1, 2, 6, 7, 8, 9, 10, 18, 19, 23, 24, 25] ?_
   refine ah fun _ k21 => ?_
   have hrl := hm.rl k (by omega); have hql := hm.ql k (by omega); have hnr := hm.nr k a (by omega) (by omega); have hw1 : ∀ v, bY (fu (m.sigP cl a k)) a [AC.int .i64 v] = fu ((m.sigP cl a k).set a v) := fun v => lA (by rw [bS]; omega) v; have h64 : ((64 : Int) + (a : Int)).toNat = 64 + a := by omega
   refine am hP hN rfl ?_
   iterate 11 (refine aj rfl fun _ k0 => ?_; simp only [zE, op1, ev, lkp, d7, ca, bZ, df, Nat.mul_one, ci, cT, acs, Ty.dflt, zG, cm, cG, Ty.size, ne_eq, not_false_eq_true, Int.natCast_one, Int.mul_one, ep, cr, bC, reduceCtorEq, aa, V, ad, ag, af, ae, Try.ea159, Try.el22, Try.el41, Try.sa159, Try.st24, Try.td159, Try.td22, Try.td24, Try.td3, Try.td41, Mly.av, bI, bS, bD, bQ, bJ, List.length_set, hw1]; (repeat refine an ?_); (try refine .inl ?_); apply k0; clear k0; simp only [zP, V])
   refine ao ?_
   apply k21; clear k21; refine kp [1, 2, 6, 7, 8, 9, 10, 18, 19, 23, 24, 25] ?_
   refine am hP hN rfl ?_
   iterate 15 (refine aj rfl fun _ k0 => ?_; simp only [zE, op1, ev, lkp, d7, ca, jv, d9, ge, iF, fC, i8, bZ, df, Nat.mul_one, ci, cT, acs, Ty.dflt, zG, cm, cG, Ty.size, ne_eq, not_false_eq_true, Int.natCast_one, Int.mul_one, ep, cr, bC, reduceCtorEq, aa, V, ad, ag, af, ae, Try.ea159, Try.el22, Try.el41, Try.sa159, Try.st24, Try.td159, Try.td2, Try.td22, Try.td24, Try.td3, Try.td41, Mly.av, bI, bS, bD, bQ, bJ, List.length_set, hw1, h64]; (repeat refine an ?_); (try refine .inl ?_); apply k0; clear k0; simp only [zP, V])
   refine ao ?_
   apply k19; clear k19; refine kp [1, 2, 6, 7, 8, 9, 10, 18, 19, 23, 24, 25] ?_
   refine am hP hN rfl ?_
   iterate 2 (refine aj rfl fun _ k0 => ?_; simp only [zO, zT, acs, reduceCtorEq, aa, V, ad, ag, af, ae, Mly.av, bI, bS, bD, bQ, bJ, List.length_set]; (repeat refine an ?_); (try refine .inl ?_); apply k0; clear k0; simp only [zP, V])
   refine ao ?_
   refine ⟨_, _, ?_, aA [1, 2, 6, 7, 8, 9, 18, 19, 23, 24], a + 1, by omega, rfl, ?_⟩
   · omega
   · rw [lA (by simp [bS]; omega), yb m cl k (by omega)]; rfl
  (try simp only [zB, reduceCtorEq] at hc18)
  refine aZ ?_
  apply k13; clear k13; refine kp [1, 2, 6, 7, 8, 9, 18, 19, 23, 24, 25] ?_
  refine ah fun _ k22 => ?_
  have hkey := yy hm hr (a := a) (s := k) (by omega) (by omega); have hsg : m.sigP cl a k = m.sig cl k := by unfold Mly.sig; rw [show m.inp.toNat = a by omega]
  rw [hsg] at hkey ⊢; have hdl := m4 (m.sig cl) k; have hst : (m.sig cl k).take 128 = m.sig cl k := by rw [← hsg]; exact bQ _ _ _ _
  have hsl : (m.sig cl k).length = 128 := by rw [← hsg]; exact bS _ _ _ _
  have hsf := sP (fun s => (pos (dj (m.sig cl) m.nx.length) (m.sig cl s) : Int)) 0 (n := m.nx.length) (k := k) (by omega)
  refine am hP hN rfl ?_
  iterate 2 (refine aj rfl fun _ k0 => ?_; simp only [zO, zT, acs, reduceCtorEq, aa, V, ad, ag, af, ae, Mly.av, bI, bS, bD, bQ, bJ, List.length_set, hst, hsl]; (repeat refine an ?_); (try refine .inl ?_); apply k0; clear k0; simp only [zP, V])
  (refine aj rfl fun _ k0 => ?_; simp only [zE, op1, ev, lkp, d7, ca, df, Nat.mul_one, ci, cT, acs, Ty.dflt, zG, cm, kI, bU, VK.ac, ir, reduceCtorEq, aa, V, ad, ag, af, ae, Try.ea159, Try.mk157, Try.sa159, Try.td1, Try.td159, Try.td3, Try.td4, Mly.av, bI, bS, bD, bQ, bJ, List.length_set, hst, hsl]; (repeat refine an ?_); (try refine .inl ?_); apply k0; clear k0; simp only [zP, V])
  iterate 5 (refine aj rfl fun _ k0 => ?_; simp only [zO, zT, acs, reduceCtorEq, aa, V, ad, ag, af, ae, Mly.av, bI, bS, bD, bQ, bJ, List.length_set, hst, hsl]; (repeat refine an ?_); (try refine .inl ?_); apply k0; clear k0; simp only [zP, V])
  refine ao ?_
  apply k22; clear k22; refine kp [1, 2, 6, 7, 8, 9, 11, 12, 18, 19, 23, 24, 25] ?_
  refine ah fun _ k23 => ?_
  refine ah fun _ k24 => ?_
  refine am hP hN rfl ?_
  iterate 2 (refine aj rfl fun _ k0 => ?_; simp only [zO, zT, acs, reduceCtorEq, aa, V, ad, ag, af, ae, Mly.av, bI, bS, bD, bQ, bJ, List.length_set]; (repeat refine an ?_); (try refine .inl ?_); apply k0; clear k0; simp only [zP, V])
  refine ao ?_
  apply k24; clear k24; refine kp [1, 2, 6, 7, 8, 9, 11, 12, 18, 19, 23, 24, 25, 59] ?_
  refine cd (fun hc25 => ?_) (fun hc25 => ?_)
  ·(try simp only [zB, reduceCtorEq] at hc25)
   refine ah fun _ k26 => ?_
   refine am hP hN rfl ?_
   iterate 3 (refine aj rfl fun _ k0 => ?_; simp only [zO, zT, acs, reduceCtorEq, aa, V, ad, ag, af, ae, Mly.av, bI, bS, bD, bQ, bJ, List.length_set, sd]; (repeat refine an ?_); (try refine .inl ?_); apply k0; clear k0; simp only [zP, V])
   refine ao ?_
   apply k26; clear k26; refine kp [1, 2, 6, 7, 8, 9, 11, 12, 18, 19, 23, 24, 25, 59] ?_
   refine am hP hN rfl ?_
   iterate 3 (refine aj rfl fun _ k0 => ?_; simp only [zO, zT, acs, reduceCtorEq, aa, V, ad, ag, af, ae, Mly.av, bI, bS, bD, bQ, bJ, List.length_set, hst, hsl]; (repeat refine an ?_); (try refine .inl ?_); apply k0; clear k0; simp only [zP, V])
   (refine aj rfl fun _ k0 => ?_; simp only [zE, op1, ev, lkp, d7, ca, df, Nat.mul_one, ci, cT, acs, Ty.dflt, zG, cm, eY, bU, valOf, reduceCtorEq, aa, V, ad, ag, af, ae, Try.ea159, Try.mk157, Try.sa159, Try.td159, Try.td3, Mly.av, bI, bS, bD, bQ, bJ, List.length_set, hst, hsl]; (repeat refine an ?_); (try refine .inl ?_); apply k0; clear k0; simp only [zP, V])
   refine ao ?_
   apply k23; clear k23; refine kp [1, 2, 6, 7, 8, 9, 11, 12, 18, 19, 23, 24, 25, 59] ?_
   refine am hP hN rfl ?_
   iterate 5 (refine aj rfl fun _ k0 => ?_; simp only [zO, zT, acs, reduceCtorEq, aa, V, ad, ag, af, ae, Mly.av, bI, bS, bD, bQ, bJ, List.length_set, hsf]; (repeat refine an ?_); (try refine .inl ?_); apply k0; clear k0; simp only [zP, V])
   refine ao ?_
   apply k10; clear k10; refine kp [1, 2, 6, 7, 8, 9, 11, 12, 18, 19, 23, 24, 25, 59] ?_
   refine dh [1, 2, 6, 7, 18, 19] ?_; simp only [cJ, lkp, zE, reduceCtorEq, aa]
   refine kM 3 rfl ?_; refine d8 (n := 3) (L1 := [_, _, _]) rfl rfl (by rw [hB]; decide) rfl rfl ?_
   refine am hP hN rfl ?_
   iterate 2 (refine aj rfl fun _ k0 => ?_; simp only [zO, zT, acs, reduceCtorEq, aa, V, ad, ag, af, ae, Mly.av, bI, bS, bD, bQ, bJ, List.length_set]; (repeat refine an ?_); (try refine .inl ?_); apply k0; clear k0; simp only [zP, V])
   refine ao ?_
   first
   | (have hin : m.sig cl k ∈ dj (m.sig cl) k := by
        false_or_by_contra; rename_i hh; rw [gd, if_neg hh] at *; simp_all
      refine ⟨_, _, ?_, aA [1, 2, 6, 7, 18, 19], k + 1, by omega, rfl, ?_⟩
      · omega
      · rw [dO, gB hin, ← jj _ _ (by omega), nc (by omega) hin, gd, if_pos hin]; rfl)
   | (have hin : m.sig cl k ∉ dj (m.sig cl) k := by
        intro hh; rw [gd, if_pos hh] at *; simp_all
      refine ⟨_, _, ?_, aA [1, 2, 6, 7, 18, 19], k + 1, by omega, rfl, ?_⟩
      · omega
      · rw [dO, fG hin, ← jj _ _ (by omega), kK (by omega) hin, rA hin]; rfl)
  (try simp only [zB, reduceCtorEq] at hc25)
  refine ay ?_
  apply k23; clear k23; refine kp [1, 2, 6, 7, 8, 9, 11, 12, 18, 19, 23, 24, 25, 59] ?_
  refine am hP hN rfl ?_
  iterate 5 (refine aj rfl fun _ k0 => ?_; simp only [zO, zT, acs, reduceCtorEq, aa, V, ad, ag, af, ae, Mly.av, bI, bS, bD, bQ, bJ, List.length_set, hsf]; (repeat refine an ?_); (try refine .inl ?_); apply k0; clear k0; simp only [zP, V])
  refine ao ?_
  apply k10; clear k10; refine kp [1, 2, 6, 7, 8, 9, 11, 12, 18, 19, 23, 24, 25, 59] ?_
  refine dh [1, 2, 6, 7, 18, 19] ?_; simp only [cJ, lkp, zE, reduceCtorEq, aa]
  refine kM 3 rfl ?_; refine d8 (n := 3) (L1 := [_, _, _]) rfl rfl (by rw [hB]; decide) rfl rfl ?_
  refine am hP hN rfl ?_
  iterate 2 (refine aj rfl fun _ k0 => ?_; simp only [zO, zT, acs, reduceCtorEq, aa, V, ad, ag, af, ae, Mly.av, bI, bS, bD, bQ, bJ, List.length_set]; (repeat refine an ?_); (try refine .inl ?_); apply k0; clear k0; simp only [zP, V])
  refine ao ?_
  first
  | (have hin : m.sig cl k ∈ dj (m.sig cl) k := by
       false_or_by_contra; rename_i hh; rw [gd, if_neg hh] at *; simp_all
     refine ⟨_, _, ?_, aA [1, 2, 6, 7, 18, 19], k + 1, by omega, rfl, ?_⟩
     · omega
     · rw [dO, gB hin, ← jj _ _ (by omega), nc (by omega) hin, gd, if_pos hin]; rfl)
  | (have hin : m.sig cl k ∉ dj (m.sig cl) k := by
       intro hh; rw [gd, if_pos hh] at *; simp_all
     refine ⟨_, _, ?_, aA [1, 2, 6, 7, 18, 19], k + 1, by omega, rfl, ?_⟩
     · omega
     · rw [dO, fG hin, ← jj _ _ (by omega), kK (by omega) hin, rA hin]; rfl)
 (try simp only [zB, reduceCtorEq] at hc9)
 refine aZ ?_
 apply k4; clear k4; refine kp [1, 2, 6, 7, 18, 19, 20] ?_
 refine ah fun _ k27 => ?_
 refine am hP hN rfl ?_
 iterate 5 (refine aj rfl fun _ k0 => ?_; simp only [zO, zT, acs, reduceCtorEq, aa, V, ad, ag, af, ae, Mly.av, bI, bS, bD, bQ, bJ, List.length_set]; (repeat refine an ?_); (try refine .inl ?_); apply k0; clear k0; simp only [zP, V])
 refine ao ?_
 apply k27; clear k27; refine kp [1, 2, 4, 5, 6, 7, 18, 19, 20] ?_
 refine aE ?_
 refine ⟨nr, _, rfl, ?_⟩; simp only [zF, zP, aa, V, Mly.av, bI, bS, bD, bQ, bJ, List.length_set]
 refine VLE.of_eq ?_
 have hkn : k = m.nx.length := by omega
 subst hkn
 rw [sM, sd]; rfl
theorem wS (m : Mly) (k : Int) (hm : MOK m) : cb Try.prog 102 [m.av, .one (.int .i64 k)] (.tup [.one (.list (.int .i64) (m.refC k)), .one (.int .i64 (m.refK k))]) := by
 have hn2 := hm.n2; have hn1 := hm.n1; have hNN : ((jW m k : Nat) : Int) = min (max k 0) (m.nx.length : Int) := by unfold jW; omega
 refine aT Try.func102 rfl (by kernel_rfl) (Nat.le_of_ble_eq_true rfl) rfl fun C hP hN hB => ?_
 replace hN : C.N = 45 := hN
 simp only [bc, V]
 refine ah fun _ k1 => ?_
 refine am hP hN rfl ?_
 iterate 3 (refine aj rfl fun _ k0 => ?_; simp only [zO, zT, acs, reduceCtorEq, aa, V, ad, ag, af, ae, Mly.av]; (repeat refine an ?_); (try refine .inl ?_); apply k0; clear k0; simp only [zP, V])
 refine ao ?_
 apply k1; clear k1; refine kp [0, 1, 2, 4, 5] ?_
 refine ah fun _ k2 => ?_
 refine am hP hN rfl ?_
 iterate 3 (refine aj rfl fun _ k0 => ?_; simp only [zO, zT, acs, reduceCtorEq, aa, V, ad, ag, af, ae, Mly.av]; (repeat refine an ?_); (try refine .inl ?_); apply k0; clear k0; simp only [zP, V])
 (refine aj rfl fun _ k0 => ?_; simp only [zE, op1, ev, lkp, d7, ca, bZ, df, Nat.mul_one, ci, cT, acs, Ty.dflt, zG, cm, cq, fb, eB, cP, db, eH, Nat.div_one, cM, dg, Ty.size, bC, dite_true, cR, reduceCtorEq, aa, V, ad, ag, af, ae, Try.el22, Try.el41, Try.st24, Try.td2, Try.td22, Try.td24, Try.td3, Try.td41, Mly.av]; (repeat refine an ?_); (try refine .inl ?_); apply k0; clear k0; simp only [zP, V])
 iterate 2 (refine aj rfl fun _ k0 => ?_; simp only [zO, zT, acs, reduceCtorEq, aa, V, ad, ag, af, ae, Mly.av]; (repeat refine an ?_); (try refine .inl ?_); apply k0; clear k0; simp only [zP, V])
 refine ao ?_
 apply k2; clear k2; refine kp [0, 1, 2, 4, 5, 6, 7] ?_
 refine ah fun _ k3 => ?_
 refine ah fun _ k4 => ?_
 refine dn 1 rfl ?_; simp only [aJ, bz, zS, aa, and_self, and_true, true_and, and_false, false_and, if_true, if_false, eq_self, reduceCtorEq, Nat.one_ne_zero, Nat.zero_ne_one]
 refine am hP hN rfl ?_
 iterate 7 (refine aj rfl fun _ k0 => ?_; simp only [zO, zT, acs, reduceCtorEq, aa, V, ad, ag, af, ae, Mly.av]; (repeat refine an ?_); (try refine .inl ?_); apply k0; clear k0; simp only [zP, V])
 refine ao ?_
 apply k4; clear k4; refine kp [0, 1, 2, 4, 5, 6, 7, 20, 21] ?_
 refine aD ?_
 refine bn (fun n5 s5 => ∃ (j : Nat), (j ≤ jW m k) ∧ (∀ q, q < j → m.cnt (q + 1) ≠ m.cnt q) ∧ n5 = jW m k - j ∧ s5 = { env := [(1, .one (.int .i64 k)), (2, .one (.ptr 0 0 0 0)), (6, .one (.list (.int .i64) (m.cls j))), (7, .one (.int .i64 (m.cnt j))), (20, .one (.int .i64 (min (max k 0) (m.nx.length : Int)))), (21, .one (.int .i64 (j : Int)))], L := [.vars 24 [.int .i64 m.inp, .int .i64 m.st, .list (.list (.int .i64)) m.nx, .list (.list (.int .i64)) m.ot], .dead 0] }) ?_ ?_
 ·refine ⟨_, _, aA [1, 2, 6, 7, 20, 21], 0, Nat.zero_le _, fun q hq => by omega, rfl, rfl⟩
 rintro n5 s5 ⟨j, hj, hq, rfl, rfl⟩
 refine ah fun _ k6 => ?_
 refine am hP hN rfl ?_
 (refine aj rfl fun _ k0 => ?_; simp only [zO, zT, acs, reduceCtorEq, aa, V, ad, ag, af, ae, Mly.av]; (repeat refine an ?_); (try refine .inl ?_); apply k0; clear k0; simp only [zP, V])
 refine ao ?_
 apply k6; clear k6; refine kp [1, 2, 6, 7, 20, 21, 22] ?_
 refine ah fun _ k7 => ?_
 refine cd (fun hc8 => ?_) (fun hc8 => ?_)
 ·(try simp only [zB, reduceCtorEq] at hc8)
  refine ay ?_
  apply k7; clear k7; refine kp [1, 2, 6, 7, 20, 21, 22] ?_
  refine ah fun _ k9 => ?_
  refine aD ?_
  refine ah fun _ k10 => ?_
  refine am hP hN rfl ?_
  iterate 2 (refine aj rfl fun _ k0 => ?_; simp only [zO, zT, acs, reduceCtorEq, aa, V, ad, ag, af, ae, Mly.av]; (repeat refine an ?_); (try refine .inl ?_); apply k0; clear k0; simp only [zP, V])
  refine ao ?_
  apply k10; clear k10; refine kp [1, 2, 6, 7, 8, 20, 21, 22] ?_
  refine ah fun _ k11 => ?_
  refine am hP hN rfl ?_
  iterate 2 (refine aj rfl fun _ k0 => ?_; simp only [zO, zT, acs, reduceCtorEq, aa, V, ad, ag, af, ae, Mly.av]; (repeat refine an ?_); (try refine .inl ?_); apply k0; clear k0; simp only [zP, V])
  refine aj rfl fun _ k0 => ?_
  refine aK (h := aC (z7 m (m.cls j) hm (kB m j) (pu hm j))) rfl rfl (by first | exact rfl | (simp only [ev, zP, aa, V]; exact rfl)) (by simp only [zV, acs, reduceCtorEq, aa, V, ad, ag, af, ae, Mly.av]) ?_
  apply k0; clear k0; simp only [zP, V]
  iterate 5 (refine aj rfl fun _ k0 => ?_; simp only [zO, zT, acs, reduceCtorEq, aa, V, ad, ag, af, ae, Mly.av]; (repeat refine an ?_); (try refine .inl ?_); apply k0; clear k0; simp only [zP, V])
  refine ao ?_
  apply k11; clear k11; refine kp [1, 2, 6, 7, 8, 9, 10, 20, 21, 22] ?_
  refine ah fun _ k12 => ?_
  refine ah fun _ k13 => ?_
  refine am hP hN rfl ?_
  iterate 3 (refine aj rfl fun _ k0 => ?_; simp only [zO, zT, acs, reduceCtorEq, aa, V, ad, ag, af, ae, Mly.av]; (repeat refine an ?_); (try refine .inl ?_); apply k0; clear k0; simp only [zP, V])
  refine ao ?_
  apply k13; clear k13; refine kp [1, 2, 6, 7, 8, 9, 10, 20, 21, 22, 32] ?_
  refine cd (fun hc14 => ?_) (fun hc14 => ?_)
  ·(try simp only [zB, reduceCtorEq] at hc14)
   refine ah fun _ k15 => ?_
   refine am hP hN rfl ?_
   iterate 4 (refine aj rfl fun _ k0 => ?_; simp only [zO, zT, acs, reduceCtorEq, aa, V, ad, ag, af, ae, Mly.av]; (repeat refine an ?_); (try refine .inl ?_); apply k0; clear k0; simp only [zP, V])
   refine ao ?_
   apply k15; clear k15; refine kp [1, 2, 4, 5, 6, 7, 8, 9, 10, 20, 21, 22, 32] ?_
   refine aE ?_
   refine ⟨nr, _, rfl, ?_⟩; simp only [zF, zP, aa, V, Mly.av]
   refine VLE.of_eq ?_
   first
   | (have hce : m.cnt (j + 1) = m.cnt j := by assumption
      have e := rS (m := m) (N := jW m k) (j := j) (by omega) hce hq
      unfold Mly.refC Mly.refK; rw [e])
   | (have hjn : j = jW m k := by omega
      subst hjn
      have e := pl hq
      unfold Mly.refC Mly.refK; rw [e, hNN])
  (try simp only [zB, reduceCtorEq] at hc14)
  refine ay ?_
  apply k12; clear k12; refine kp [1, 2, 6, 7, 8, 9, 10, 20, 21, 22, 32] ?_
  refine am hP hN rfl ?_
  iterate 4 (refine aj rfl fun _ k0 => ?_; simp only [zO, zT, acs, reduceCtorEq, aa, V, ad, ag, af, ae, Mly.av]; (repeat refine an ?_); (try refine .inl ?_); apply k0; clear k0; simp only [zP, V])
  refine ao ?_
  apply k9; clear k9; refine kp [1, 2, 6, 7, 8, 9, 10, 20, 21, 22, 32] ?_
  refine am hP hN rfl ?_
  iterate 2 (refine aj rfl fun _ k0 => ?_; simp only [zO, zT, acs, reduceCtorEq, aa, V, ad, ag, af, ae, Mly.av]; (repeat refine an ?_); (try refine .inl ?_); apply k0; clear k0; simp only [zP, V])
  refine ao ?_
  have hne : m.cnt (j + 1) ≠ m.cnt j := by first | assumption | (intro hh; simp_all [Mly.cnt])
  refine ⟨_, _, ?_, aA [1, 2, 6, 7, 20, 21], j + 1, by omega, fun q hq2 => ?_, rfl, rfl⟩
  · omega
  · by_cases e : q = j
    · rw [e]; exact hne
    · exact hq q (by omega)
 (try simp only [zB, reduceCtorEq] at hc8)
 refine aZ ?_
 apply k3; clear k3; refine kp [1, 2, 6, 7, 20, 21, 22] ?_
 refine ah fun _ k16 => ?_
 refine bu hP hN Try.mixed rfl ?_
 iterate 9 (refine aj rfl fun _ k0 => ?_; simp only [zO, zT, acs, reduceCtorEq, aa, V, ad, ag, af, ae, Mly.av]; (repeat refine an ?_); (try refine .inl ?_); apply k0; clear k0; simp only [zP, V])
 refine ao ?_
 refine ⟨by kernel_rfl, ?_⟩
 apply k16; clear k16; refine kp [1, 2, 4, 5, 6, 7, 20, 21, 22] ?_
 refine aE ?_
 refine ⟨nr, _, rfl, ?_⟩; simp only [zF, zP, aa, V, Mly.av]
 refine VLE.of_eq ?_
 first
 | (have hce : m.cnt (j + 1) = m.cnt j := by assumption
    have e := rS (m := m) (N := jW m k) (j := j) (by omega) hce hq
    unfold Mly.refC Mly.refK; rw [e])
 | (have hjn : j = jW m k := by omega
    subst hjn
    have e := pl hq
    unfold Mly.refC Mly.refK; rw [e, hNN])
theorem C3 (m : Mly) (k : Int) : cb Try.prog 89 [m.av, .one (.int .i64 k)] (.tup [.one (.list (.int .i64) (if aL m = 0 then m.refC k else [])), .one (.int .i64 (aL m))]) := by
 refine aT Try.func89 rfl (by kernel_rfl) (Nat.le_of_ble_eq_true rfl) rfl fun C hP hN hB => ?_
 replace hN : C.N = 21 := hN
 simp only [bc, V]
 refine ah fun _ k1 => ?_
 refine am hP hN rfl ?_
 iterate 3 (refine aj rfl fun _ k0 => ?_; simp only [zO, zT, acs, reduceCtorEq, aa, V, ad, ag, af, ae, Mly.av]; (repeat refine an ?_); (try refine .inl ?_); apply k0; clear k0; simp only [zP, V])
 refine ao ?_
 apply k1; clear k1; refine kp [0, 1, 2, 4, 5] ?_
 refine ah fun _ k2 => ?_
 refine ah fun _ k3 => ?_
 refine am hP hN rfl ?_
 (refine aj rfl fun _ k0 => ?_; simp only [zO, zT, acs, reduceCtorEq, aa, V, ad, ag, af, ae, Mly.av]; (repeat refine an ?_); (try refine .inl ?_); apply k0; clear k0; simp only [zP, V])
 refine aj rfl fun _ k0 => ?_
 refine aK (h := aC (iu m)) rfl rfl (by first | exact rfl | (simp only [ev, zP, aa, V]; exact rfl)) (by simp only [zV, acs, reduceCtorEq, aa, V, ad, ag, af, ae, Mly.av]) ?_
 apply k0; clear k0; simp only [zP, V]
 (refine aj rfl fun _ k0 => ?_; simp only [zO, zT, acs, reduceCtorEq, aa, V, ad, ag, af, ae, Mly.av]; (repeat refine an ?_); (try refine .inl ?_); apply k0; clear k0; simp only [zP, V])
 refine ao ?_
 apply k3; clear k3; refine kp [0, 1, 2, 4, 5, 6] ?_
 refine ah fun _ k4 => ?_
 refine am hP hN rfl ?_
 iterate 2 (refine aj rfl fun _ k0 => ?_; simp only [zO, zT, acs, reduceCtorEq, aa, V, ad, ag, af, ae, Mly.av]; (repeat refine an ?_); (try refine .inl ?_); apply k0; clear k0; simp only [zP, V])
 refine ao ?_
 apply k4; clear k4; refine kp [0, 1, 2, 4, 5, 6, 12] ?_
 refine cd (fun hc5 => ?_) (fun hc5 => ?_)
 ·(try simp only [zB, reduceCtorEq] at hc5)
  refine ah fun _ k6 => ?_
  refine am hP hN rfl ?_
  iterate 3 (refine aj rfl fun _ k0 => ?_; simp only [zO, zT, acs, reduceCtorEq, aa, V, ad, ag, af, ae, Mly.av]; (repeat refine an ?_); (try refine .inl ?_); apply k0; clear k0; simp only [zP, V])
  refine ao ?_
  apply k6; clear k6; refine kp [0, 1, 2, 4, 5, 6, 12] ?_
  refine aE ?_
  refine ⟨nr, _, rfl, ?_⟩; simp only [zF, zP, aa, V, Mly.av]
  first
  | (rw [if_neg ‹¬aL m = 0›]; exact bE ⟨aF (bo rfl), aF (.refl _), trivial⟩)
  | (rw [if_pos ‹aL m = 0›, ‹aL m = 0›]; exact bE ⟨aF (.refl _), aF (.refl _), trivial⟩)
 (try simp only [zB, reduceCtorEq] at hc5)
 refine ay ?_
 apply k2; clear k2; refine kp [0, 1, 2, 4, 5, 6, 12] ?_
 refine ah fun _ k7 => ?_
 refine am hP hN rfl ?_
 iterate 2 (refine aj rfl fun _ k0 => ?_; simp only [zO, zT, acs, reduceCtorEq, aa, V, ad, ag, af, ae, Mly.av]; (repeat refine an ?_); (try refine .inl ?_); apply k0; clear k0; simp only [zP, V])
 refine aj rfl fun _ k0 => ?_
 refine aK (h := aC (wS m k (eJ (by assumption)))) rfl rfl (by first | exact rfl | (simp only [ev, zP, aa, V]; exact rfl)) (by simp only [zV, acs, reduceCtorEq, aa, V, ad, ag, af, ae, Mly.av]) ?_
 apply k0; clear k0; simp only [zP, V]
 iterate 5 (refine aj rfl fun _ k0 => ?_; simp only [zO, zT, acs, reduceCtorEq, aa, V, ad, ag, af, ae, Mly.av]; (repeat refine an ?_); (try refine .inl ?_); apply k0; clear k0; simp only [zP, V])
 refine ao ?_
 apply k7; clear k7; refine kp [0, 1, 2, 4, 5, 6, 7, 12] ?_
 refine ah fun _ k8 => ?_
 refine am hP hN rfl ?_
 iterate 3 (refine aj rfl fun _ k0 => ?_; simp only [zO, zT, acs, reduceCtorEq, aa, V, ad, ag, af, ae, Mly.av]; (repeat refine an ?_); (try refine .inl ?_); apply k0; clear k0; simp only [zP, V])
 refine ao ?_
 apply k8; clear k8; refine kp [0, 1, 2, 4, 5, 6, 7, 12] ?_
 refine aE ?_
 refine ⟨nr, _, rfl, ?_⟩; simp only [zF, zP, aa, V, Mly.av]
 first
 | (rw [if_neg ‹¬aL m = 0›]; exact bE ⟨aF (bo rfl), aF (.refl _), trivial⟩)
 | (rw [if_pos ‹aL m = 0›, ‹aL m = 0›]; exact bE ⟨aF (.refl _), aF (.refl _), trivial⟩)
theorem wv (m : Mly) : cb Try.prog 82 [m.av] (.tup [.one (.list (.int .i64) (if aL m = 0 then m.eqc else [])), .one (.int .i64 (aL m))]) := by
 refine aT Try.func82 rfl (by kernel_rfl) (Nat.le_of_ble_eq_true rfl) rfl fun C hP hN hB => ?_
 replace hN : C.N = 8 := hN
 simp only [bc, V]
 refine ah fun _ k1 => ?_
 refine am hP hN rfl ?_
 iterate 3 (refine aj rfl fun _ k0 => ?_; simp only [zO, zT, acs, reduceCtorEq, aa, V, ad, ag, af, ae, Mly.av]; (repeat refine an ?_); (try refine .inl ?_); apply k0; clear k0; simp only [zP, V])
 refine ao ?_
 apply k1; clear k1; refine kp [0, 1, 2, 3] ?_
 refine ah fun _ k2 => ?_
 refine am hP hN rfl ?_
 (refine aj rfl fun _ k0 => ?_; simp only [zO, zT, acs, reduceCtorEq, aa, V, ad, ag, af, ae, Mly.av]; (repeat refine an ?_); (try refine .inl ?_); apply k0; clear k0; simp only [zP, V])
 refine aj rfl fun _ k0 => ?_
 refine aK (h := aC (C3 m 128)) rfl rfl (by first | exact rfl | (simp only [ev, zP, aa, V]; exact rfl)) (by simp only [zV, acs, reduceCtorEq, aa, V, ad, ag, af, ae, Mly.av]) ?_
 apply k0; clear k0; simp only [zP, V]
 iterate 4 (refine aj rfl fun _ k0 => ?_; simp only [zO, zT, acs, reduceCtorEq, aa, V, ad, ag, af, ae, Mly.av]; (repeat refine an ?_); (try refine .inl ?_); apply k0; clear k0; simp only [zP, V])
 refine ao ?_
 apply k2; clear k2; refine kp [0, 1, 2, 3] ?_
 refine aE ?_
 refine ⟨nr, _, rfl, ?_⟩; simp only [zF, zP, aa, V, Mly.av]
 refine VLE.of_eq ?_
 rfl
theorem vy (m : Mly) (hv : aL m = 0) : cb Try.prog 82 [m.av] (.tup [.one (.list (.int .i64) m.eqc), .one (.int .i64 0)]) := by
  have h := wv m
  rw [if_pos hv, hv] at h
  exact h

theorem xA  : cb Try.prog 51 [.one .nils] (.one .nils) := by
 refine aT Try.func51 rfl (by kernel_rfl) (Nat.le_of_ble_eq_true rfl) rfl fun C hP hN hB => ?_
 replace hN : C.N = 8 := hN
 simp only [bc, V]
 refine ah fun _ k1 => ?_
 refine am hP hN rfl ?_
 (refine aj rfl fun _ k0 => ?_; simp only [zO, zT, acs, reduceCtorEq, aa, V, ad, ag, af, ae]; (repeat refine an ?_); (try refine .inl ?_); apply k0; clear k0; simp only [zP, V])
 refine ao ?_
 apply k1; clear k1; refine kp [0, 2] ?_
 refine ah fun _ k2 => ?_
 refine ah fun _ k3 => ?_
 refine am hP hN rfl ?_
 iterate 2 (refine aj rfl fun _ k0 => ?_; simp only [zO, zT, acs, reduceCtorEq, aa, V, ad, ag, af, ae]; (repeat refine an ?_); (try refine .inl ?_); apply k0; clear k0; simp only [zP, V])
 refine ao ?_
 apply k3; clear k3; refine kp [0, 2, 4] ?_
 refine cd (fun hc4 => ?_) (fun hc4 => ?_)
 ·(try simp only [zB, reduceCtorEq] at hc4)
  refine ah fun _ k5 => ?_
  refine am hP hN rfl ?_
  (refine aj rfl fun _ k0 => ?_; simp only [zO, zT, acs, reduceCtorEq, aa, V, ad, ag, af, ae]; (repeat refine an ?_); (try refine .inl ?_); apply k0; clear k0; simp only [zP, V])
  refine ao ?_
  apply k5; clear k5; refine kp [0, 2, 4] ?_
  refine aE ?_
  refine ⟨nr, _, rfl, ?_⟩; simp only [zF, zP, aa, V]
  refine VLE.of_eq ?_
  rfl
 · exfalso; (try simp only [zB, reduceCtorEq] at hc4); all_goals (first | (cases hc4; done) | omega | (simp at hc4; done) | (simp_all; done))
theorem Bt  : cb Try.prog 51 [.one .emp] (.one (.list (.int .i64) [])) := by
 refine aT Try.func51 rfl (by kernel_rfl) (Nat.le_of_ble_eq_true rfl) rfl fun C hP hN hB => ?_
 replace hN : C.N = 8 := hN
 simp only [bc, V]
 refine ah fun _ k1 => ?_
 refine am hP hN rfl ?_
 (refine aj rfl fun _ k0 => ?_; simp only [zO, zT, acs, reduceCtorEq, aa, V, ad, ag, af, ae]; (repeat refine an ?_); (try refine .inl ?_); apply k0; clear k0; simp only [zP, V])
 refine ao ?_
 apply k1; clear k1; refine kp [0, 2] ?_
 refine ah fun _ k2 => ?_
 refine ah fun _ k3 => ?_
 refine am hP hN rfl ?_
 iterate 2 (refine aj rfl fun _ k0 => ?_; simp only [zO, zT, acs, reduceCtorEq, aa, V, ad, ag, af, ae]; (repeat refine an ?_); (try refine .inl ?_); apply k0; clear k0; simp only [zP, V])
 refine ao ?_
 apply k3; clear k3; refine kp [0, 2, 4] ?_
 refine cd (fun hc4 => ?_) (fun hc4 => ?_)
 · exfalso; (try simp only [zB, reduceCtorEq] at hc4); all_goals (first | (cases hc4; done) | omega | (simp at hc4; done) | (simp_all; done))
 (try simp only [zB, reduceCtorEq] at hc4)
 refine ay ?_
 apply k2; clear k2; refine kp [0, 2, 4] ?_
 refine ah fun _ k5 => ?_
 refine am hP hN rfl ?_
 (refine aj rfl fun _ k0 => ?_; simp only [zO, zT, acs, reduceCtorEq, aa, V, ad, ag, af, ae]; (repeat refine an ?_); refine Or.inr (Or.inl (k0 _ ?_)); clear k0; simp only [zP, V])
 iterate 3 (refine aj rfl fun _ k0 => ?_; simp only [zO, zT, acs, reduceCtorEq, aa, V, ad, ag, af, ae]; (repeat refine an ?_); (try refine .inl ?_); apply k0; clear k0; simp only [zP, V])
 refine ao ?_
 apply k5; clear k5; refine kp [0, 2, 4] ?_
 refine aE ?_
 refine ⟨nr, _, rfl, ?_⟩; simp only [zF, zP, aa, V]
 refine VLE.of_eq ?_
 rfl
theorem C4 (xs : List Int) (h0 : 0 < xs.length) (h1 : xs.length ≤ 10000000000000) : cb Try.prog 51 [.one (.list (.int .i64) xs)] (.one (.list (.int .i64) xs)) := by
 refine aT Try.func51 rfl (by kernel_rfl) (Nat.le_of_ble_eq_true rfl) rfl fun C hP hN hB => ?_
 replace hN : C.N = 8 := hN
 simp only [bc, V]
 refine ah fun _ k1 => ?_
 refine am hP hN rfl ?_
 (refine aj rfl fun _ k0 => ?_; simp only [zO, zT, acs, reduceCtorEq, aa, V, ad, ag, af, ae]; (repeat refine an ?_); (try refine .inl ?_); apply k0; clear k0; simp only [zP, V])
 refine ao ?_
 apply k1; clear k1; refine kp [0, 2] ?_
 refine ah fun _ k2 => ?_
 refine ah fun _ k3 => ?_
 refine am hP hN rfl ?_
 iterate 2 (refine aj rfl fun _ k0 => ?_; simp only [zO, zT, acs, reduceCtorEq, aa, V, ad, ag, af, ae]; (repeat refine an ?_); (try refine .inl ?_); apply k0; clear k0; simp only [zP, V])
 refine ao ?_
 apply k3; clear k3; refine kp [0, 2, 4] ?_
 refine cd (fun hc4 => ?_) (fun hc4 => ?_)
 · exfalso; (try simp only [zB, reduceCtorEq] at hc4); all_goals (first | (cases hc4; done) | omega | (simp at hc4; done) | (simp_all; done))
 (try simp only [zB, reduceCtorEq] at hc4)
 refine ay ?_
 apply k2; clear k2; refine kp [0, 2, 4] ?_
 refine ah fun _ k5 => ?_
 refine am hP hN rfl ?_
 (refine aj rfl fun _ k0 => ?_; simp only [zO, zT, acs, reduceCtorEq, aa, V, ad, ag, af, ae]; (repeat refine an ?_); refine Or.inr (Or.inl (k0 _ ?_)); clear k0; simp only [zP, V])
 iterate 3 (refine aj rfl fun _ k0 => ?_; simp only [zO, zT, acs, reduceCtorEq, aa, V, ad, ag, af, ae]; (repeat refine an ?_); (try refine .inl ?_); apply k0; clear k0; simp only [zP, V])
 refine ao ?_
 apply k5; clear k5; refine kp [0, 2, 4] ?_
 refine aE ?_
 refine ⟨nr, _, rfl, ?_⟩; simp only [zF, zP, aa, V]
 refine VLE.of_eq ?_
 rfl
theorem uE (xs : List Int) (h : xs.length ≤ 10000000000000) : cb Try.prog 51 [.one (.list (.int .i64) xs)] (.one (.list (.int .i64) xs)) :=
  uG (t := .int .i64) (fun e => wz xA (m7 (bo e))) (fun e => by subst e; exact Bt) (fun h0 => C4 xs h0 h) xA.1

theorem uY (m : Mly) : cb Try.prog 69 [m.av] (.one (.list (.int .i64) m.reach)) := by
 refine aT Try.func69 rfl (by kernel_rfl) (Nat.le_of_ble_eq_true rfl) rfl fun C hP hN hB => ?_
 replace hN : C.N = 55 := hN
 simp only [bc, V]
 refine ah fun _ k1 => ?_
 refine am hP hN rfl ?_
 iterate 2 (refine aj rfl fun _ k0 => ?_; simp only [zO, zT, acs, reduceCtorEq, aa, V, ad, ag, af, ae, Mly.av]; (repeat refine an ?_); (try refine .inl ?_); apply k0; clear k0; simp only [zP, V])
 refine ao ?_
 apply k1; clear k1; refine kp [0, 1, 2] ?_
 refine ah fun _ k2 => ?_
 refine ah fun _ k3 => ?_
 refine am hP hN rfl ?_
 (refine aj rfl fun _ k0 => ?_; simp only [zO, zT, acs, reduceCtorEq, aa, V, ad, ag, af, ae, Mly.av]; (repeat refine an ?_); (try refine .inl ?_); apply k0; clear k0; simp only [zP, V])
 refine aj rfl fun _ k0 => ?_
 refine aK (h := aC (iu m)) rfl rfl (by first | exact rfl | (simp only [ev, zP, aa, V]; exact rfl)) (by simp only [zV, acs, reduceCtorEq, aa, V, ad, ag, af, ae, Mly.av]) ?_
 apply k0; clear k0; simp only [zP, V]
 (refine aj rfl fun _ k0 => ?_; simp only [zO, zT, acs, reduceCtorEq, aa, V, ad, ag, af, ae, Mly.av]; (repeat refine an ?_); (try refine .inl ?_); apply k0; clear k0; simp only [zP, V])
 refine ao ?_
 apply k3; clear k3; refine kp [0, 1, 2, 10] ?_
 refine cd (fun hc4 => ?_) (fun hc4 => ?_)
 ·(try simp only [zB, reduceCtorEq] at hc4)
  refine ah fun _ k5 => ?_
  refine am hP hN rfl ?_
  (refine aj rfl fun _ k0 => ?_; simp only [zO, zT, acs, reduceCtorEq, aa, V, ad, ag, af, ae, Mly.av]; (repeat refine an ?_); (try refine .inl ?_); apply k0; clear k0; simp only [zP, V])
  refine ao ?_
  apply k5; clear k5; refine kp [0, 1, 2, 10] ?_
  refine aE ?_
  refine ⟨nr, _, rfl, ?_⟩; simp only [zF, zP, aa, V, Mly.av]
  first
  | (rw [pq ‹¬aL m = 0›]; exact m7 (bo rfl))
  | (rw [← hrf, fT _ _ _ _ (by omega)]; exact VLE.of_eq (by simp))
 (try simp only [zB, reduceCtorEq] at hc4)
 refine ay ?_
 apply k2; clear k2; refine kp [0, 1, 2, 10] ?_
 refine ah fun _ k6 => ?_
 have hv : aL m = 0 := by assumption
 have hm := eJ hv; have h1 := hm.s1; have h2 := hm.s2; have h3 := hm.n2; have hrp : (List.replicate m.nx.length false).length = m.nx.length := aB
 refine am hP hN rfl ?_
 iterate 3 (refine aj rfl fun _ k0 => ?_; simp only [zO, zT, acs, reduceCtorEq, aa, V, ad, ag, af, ae, Mly.av]; (repeat refine an ?_); (try refine .inl ?_); apply k0; clear k0; simp only [zP, V])
 (refine aj rfl fun _ k0 => ?_; simp only [zE, op1, ev, lkp, d7, ca, bZ, df, Nat.mul_one, ci, cT, acs, Ty.dflt, zG, cm, cq, fb, eB, cP, db, eH, Nat.div_one, cM, dg, Ty.size, bC, dite_true, cR, reduceCtorEq, aa, V, ad, ag, af, ae, Try.el107, Try.el22, Try.st24, Try.td107, Try.td2, Try.td22, Try.td24, Try.td3, Mly.av]; (repeat refine an ?_); (try refine .inl ?_); apply k0; clear k0; simp only [zP, V])
 (refine aj rfl fun _ k0 => ?_; simp only [zO, zT, acs, reduceCtorEq, aa, V, ad, ag, af, ae, Mly.av]; (repeat refine an ?_); (try refine .inl ?_); apply k0; clear k0; simp only [zP, V])
 refine ao ?_
 apply k6; clear k6; refine kp [0, 1, 2, 3, 10] ?_
 refine ah fun _ k7 => ?_
 refine am hP hN rfl ?_
 iterate 5 (refine aj rfl fun _ k0 => ?_; simp only [zO, zT, acs, reduceCtorEq, aa, V, ad, ag, af, ae, Mly.av]; (repeat refine an ?_); (try refine .inl ?_); apply k0; clear k0; simp only [zP, V])
 refine ao ?_
 apply k7; clear k7; refine kp [0, 1, 2, 3, 10] ?_
 refine ah fun _ k8 => ?_
 refine am hP hN rfl ?_
 iterate 2 (refine aj rfl fun _ k0 => ?_; simp only [zO, zT, acs, reduceCtorEq, aa, V, ad, ag, af, ae, Mly.av]; (repeat refine an ?_); (try refine .inl ?_); apply k0; clear k0; simp only [zP, V])
 (refine aj rfl fun _ k0 => ?_; simp only [zO, zT, acs, reduceCtorEq, aa, V, ad, ag, af, ae, Mly.av]; (repeat refine an ?_); refine Or.inr (Or.inl (k0 _ ?_)); clear k0; simp only [zP, V])
 (refine aj rfl fun _ k0 => ?_; simp only [zO, zT, acs, reduceCtorEq, aa, V, ad, ag, af, ae, Mly.av]; (repeat refine an ?_); (try refine .inl ?_); apply k0; clear k0; simp only [zP, V])
 refine ao ?_
 apply k8; clear k8; refine kp [0, 1, 2, 3, 4, 10] ?_
 refine ah fun _ k9 => ?_
 refine ah fun _ k10 => ?_
 refine am hP hN rfl ?_
 (refine aj rfl fun _ k0 => ?_; simp only [zO, zT, acs, reduceCtorEq, aa, V, ad, ag, af, ae, Mly.av]; (repeat refine an ?_); (try refine .inl ?_); apply k0; clear k0; simp only [zP, V])
 refine ao ?_
 apply k10; clear k10; refine kp [0, 1, 2, 3, 4, 5, 10] ?_
 refine aD ?_
 refine bn (fun n11 s11 => ∃ (i : Nat) (l : List Int) (v : Nat), (RSet m.nx.length l) ∧ (m.rf (m.nx.length + 1 - i) i l = m.reach) ∧ (i ≤ l.length) ∧ n11 = m.nx.length + 1 - i ∧ s11 = { env := [(1, .one (.ptr 0 0 0 0)), (3, .one (.row 1 0)), (4, .one (.row 2 v)), (5, .one (.int .i64 (i : Int)))], L := [.vars 24 [.int .i64 m.inp, .int .i64 m.st, .list (.list (.int .i64)) m.nx, .list (.list (.int .i64)) m.ot], .row .bool 4 0 (fX m.nx.length l), .row (.int .i64) 3 v l] }) ?_ ?_
 ·refine ⟨_, _, aA [1, 3, 4, 5], 0, [m.st], 0, ip hm, (eh hv).symm, Nat.zero_le _, rfl, ?_⟩
  have hs := nt (n := m.nx.length) (l := []) hm.s1 hm.s2
  rw [z3]
  simp only [b6] at hs
  rw [hs]; rfl
 rintro n11 s11 ⟨i, l, v, hR, hrf, hi, rfl, rfl⟩
 refine ah fun _ k12 => ?_
 refine ah fun _ k13 => ?_
 refine am hP hN rfl ?_
 iterate 4 (refine aj rfl fun _ k0 => ?_; simp only [zO, zT, acs, reduceCtorEq, aa, V, ad, ag, af, ae, Mly.av]; (repeat refine an ?_); (try refine .inl ?_); apply k0; clear k0; simp only [zP, V])
 refine ao ?_
 apply k13; clear k13; refine kp [1, 3, 4, 5, 25] ?_
 refine cd (fun hc14 => ?_) (fun hc14 => ?_)
 ·(try simp only [zB, reduceCtorEq] at hc14)
  refine ay ?_
  apply k12; clear k12; refine kp [1, 3, 4, 5, 25] ?_
  refine ah fun _ k15 => ?_
  refine aD ?_
  refine ah fun _ k16 => ?_
  have hx := hR.at_ (i := i) (by omega); have hl := hR.len; have hrl := hm.rl (l.getD i 0).toNat (by omega); have hi2 := hm.i2; have hrow : ((m.row (l.getD i 0)).length : Int) = m.inp := hrl
  refine bu hP hN Try.mixed rfl ?_
  iterate 10 (refine aj rfl fun _ k0 => ?_; simp only [zO, zT, acs, reduceCtorEq, aa, V, ad, ag, af, ae, Mly.av]; (repeat refine an ?_); (try refine .inl ?_); apply k0; clear k0; simp only [zP, V])
  refine ao ?_
  refine ⟨by kernel_rfl, ?_⟩
  apply k16; clear k16; refine kp [1, 3, 4, 5, 25, 35, 36, 37] ?_
  refine aD ?_
  refine bn (fun n17 s17 => ∃ (j : Nat) (v2 : Nat), (j ≤ (m.row (l.getD i 0)).length) ∧ (RSet m.nx.length (((m.row (l.getD i 0)).take j).foldl cp l)) ∧ n17 = (m.row (l.getD i 0)).length - j ∧ s17 = { env := [(1, .one (.ptr 0 0 0 0)), (3, .one (.row 1 0)), (4, .one (.row 2 v2)), (5, .one (.int .i64 (i : Int))), (35, .one (.list (.int .i64) (m.row (l.getD i 0)))), (36, .one (.int .i64 ((m.row (l.getD i 0)).length : Int))), (37, .one (.int .i64 (j : Int)))], L := [.vars 24 [.int .i64 m.inp, .int .i64 m.st, .list (.list (.int .i64)) m.nx, .list (.list (.int .i64)) m.ot], .row .bool 4 0 (fX m.nx.length (((m.row (l.getD i 0)).take j).foldl cp l)), .row (.int .i64) 3 v2 (((m.row (l.getD i 0)).take j).foldl cp l)] }) ?_ ?_
  ·exact ⟨_, _, aA [1, 3, 4, 5, 35, 36, 37], 0, v, Nat.zero_le _, hR, rfl, rfl⟩
  rintro n17 s17 ⟨j, v2, hj, hRc, rfl, rfl⟩
  refine ah fun _ k18 => ?_
  refine am hP hN rfl ?_
  (refine aj rfl fun _ k0 => ?_; simp only [zO, zT, acs, reduceCtorEq, aa, V, ad, ag, af, ae, Mly.av]; (repeat refine an ?_); (try refine .inl ?_); apply k0; clear k0; simp only [zP, V])
  refine ao ?_
  apply k18; clear k18; refine kp [1, 3, 4, 5, 35, 36, 37, 38] ?_
  refine ah fun _ k19 => ?_
  refine cd (fun hc20 => ?_) (fun hc20 => ?_)
  ·(try simp only [zB, reduceCtorEq] at hc20)
   refine ay ?_
   apply k19; clear k19; refine kp [1, 3, 4, 5, 35, 36, 37, 38] ?_
   refine ah fun _ k21 => ?_
   refine aD ?_
   refine ah fun _ k22 => ?_
   refine am hP hN rfl ?_
   iterate 3 (refine aj rfl fun _ k0 => ?_; simp only [zO, zT, acs, reduceCtorEq, aa, V, ad, ag, af, ae, Mly.av]; (repeat refine an ?_); (try refine .inl ?_); apply k0; clear k0; simp only [zP, V])
   refine ao ?_
   apply k22; clear k22; refine kp [1, 3, 4, 5, 7, 35, 36, 37, 38] ?_
   refine ah fun _ k23 => ?_
   have ht := gV hm hx.1 hx.2 ((m.row (l.getD i 0)).getD j 0) (br (by omega)); have hse := Ah (l := (((m.row (l.getD i 0)).take j).foldl cp l)) ht.1 ht.2; have hsl := yp m.nx.length (((m.row (l.getD i 0)).take j).foldl cp l); have hcl := hRc.len
   refine am hP hN rfl ?_
   iterate 5 (refine aj rfl fun _ k0 => ?_; simp only [zO, zT, acs, reduceCtorEq, aa, V, ad, ag, af, ae, Mly.av]; (repeat refine an ?_); (try refine .inl ?_); apply k0; clear k0; simp only [zP, V])
   refine ao ?_
   apply k23; clear k23; refine kp [1, 3, 4, 5, 7, 35, 36, 37, 38, 45] ?_
   refine cd (fun hc24 => ?_) (fun hc24 => ?_)
   ·(try simp only [zB, reduceCtorEq] at hc24)
    refine ah fun _ k25 => ?_
    refine am hP hN rfl ?_
    iterate 4 (refine aj rfl fun _ k0 => ?_; simp only [zO, zT, acs, reduceCtorEq, aa, V, ad, ag, af, ae, Mly.av]; (repeat refine an ?_); (try refine .inl ?_); apply k0; clear k0; simp only [zP, V])
    refine ao ?_
    apply k25; clear k25; refine kp [1, 3, 4, 5, 7, 35, 36, 37, 38, 45] ?_
    refine am hP hN rfl ?_
    iterate 5 (refine aj rfl fun _ k0 => ?_; simp only [zO, zT, acs, reduceCtorEq, aa, V, ad, ag, af, ae, Mly.av]; (repeat refine an ?_); (try refine .inl ?_); apply k0; clear k0; simp only [zP, V])
    refine ao ?_
    apply k21; clear k21; refine kp [1, 3, 4, 5, 7, 35, 36, 37, 38, 45] ?_
    refine am hP hN rfl ?_
    iterate 2 (refine aj rfl fun _ k0 => ?_; simp only [zO, zT, acs, reduceCtorEq, aa, V, ad, ag, af, ae, Mly.av]; (repeat refine an ?_); (try refine .inl ?_); apply k0; clear k0; simp only [zP, V])
    refine ao ?_
    first
    | (have hnin : ¬ ((m.row (l.getD i 0)).getD j 0 ∈ (((m.row (l.getD i 0)).take j).foldl cp l)) := by
         intro hin; rw [decide_eq_true hin] at hse; have hh := hc24; rw [hse] at hh; cases hh
       refine ⟨_, _, ?_, aA [1, 3, 4, 5, 35, 36, 37], j + 1, v2 + 1, by omega, ?_, rfl, ?_⟩
       · omega
       · exact RSet.take hm hR hx.1 hx.2 (j + 1)
       · rw [gL (by omega), fe hnin, ← nt ht.1 ht.2]; rfl)
    | (have hin : ((m.row (l.getD i 0)).getD j 0 ∈ (((m.row (l.getD i 0)).take j).foldl cp l)) := by
         have hh := hc24; rw [hse] at hh; exact of_decide_eq_true hh
       refine ⟨_, _, ?_, aA [1, 3, 4, 5, 35, 36, 37], j + 1, v2, by omega, ?_, rfl, ?_⟩
       · omega
       · exact RSet.take hm hR hx.1 hx.2 (j + 1)
       · rw [gL (by omega), gA hin]; rfl)
   (try simp only [zB, reduceCtorEq] at hc24)
   refine ay ?_
   apply k21; clear k21; refine kp [1, 3, 4, 5, 7, 35, 36, 37, 38, 45] ?_
   refine am hP hN rfl ?_
   iterate 2 (refine aj rfl fun _ k0 => ?_; simp only [zO, zT, acs, reduceCtorEq, aa, V, ad, ag, af, ae, Mly.av]; (repeat refine an ?_); (try refine .inl ?_); apply k0; clear k0; simp only [zP, V])
   refine ao ?_
   first
   | (have hnin : ¬ ((m.row (l.getD i 0)).getD j 0 ∈ (((m.row (l.getD i 0)).take j).foldl cp l)) := by
        intro hin; rw [decide_eq_true hin] at hse; have hh := hc24; rw [hse] at hh; cases hh
      refine ⟨_, _, ?_, aA [1, 3, 4, 5, 35, 36, 37], j + 1, v2 + 1, by omega, ?_, rfl, ?_⟩
      · omega
      · exact RSet.take hm hR hx.1 hx.2 (j + 1)
      · rw [gL (by omega), fe hnin, ← nt ht.1 ht.2]; rfl)
   | (have hin : ((m.row (l.getD i 0)).getD j 0 ∈ (((m.row (l.getD i 0)).take j).foldl cp l)) := by
        have hh := hc24; rw [hse] at hh; exact of_decide_eq_true hh
      refine ⟨_, _, ?_, aA [1, 3, 4, 5, 35, 36, 37], j + 1, v2, by omega, ?_, rfl, ?_⟩
      · omega
      · exact RSet.take hm hR hx.1 hx.2 (j + 1)
      · rw [gL (by omega), gA hin]; rfl)
  (try simp only [zB, reduceCtorEq] at hc20)
  refine aZ ?_
  apply k15; clear k15; refine kp [1, 3, 4, 5, 35, 36, 37, 38] ?_
  refine am hP hN rfl ?_
  iterate 3 (refine aj rfl fun _ k0 => ?_; simp only [zO, zT, acs, reduceCtorEq, aa, V, ad, ag, af, ae, Mly.av]; (repeat refine an ?_); (try refine .inl ?_); apply k0; clear k0; simp only [zP, V])
  refine ao ?_
  have hjr : (m.row (l.getD i 0)).take j = m.row (l.getD i 0) := List.take_of_length_le (by omega)
  rw [hjr] at hRc
  have hge := mb (m.row (l.getD i 0)) l
  refine ⟨_, _, ?_, aA [1, 3, 4, 5], i + 1, (m.row (l.getD i 0)).foldl cp l, v2, hRc, ?_, by omega, rfl, ?_⟩
  · omega
  · rw [← hrf, show m.nx.length + 1 - i = (m.nx.length + 1 - (i + 1)) + 1 by omega, gW m _ _ _ (by omega)]
  · rw [hjr]; rfl
 (try simp only [zB, reduceCtorEq] at hc14)
 refine aZ ?_
 apply k9; clear k9; refine kp [1, 3, 4, 5, 25] ?_
 refine ah fun _ k26 => ?_
 refine am hP hN rfl ?_
 iterate 2 (refine aj rfl fun _ k0 => ?_; simp only [zO, zT, acs, reduceCtorEq, aa, V, ad, ag, af, ae, Mly.av]; (repeat refine an ?_); (try refine .inl ?_); apply k0; clear k0; simp only [zP, V])
 refine ao ?_
 apply k26; clear k26; refine kp [1, 2, 3, 4, 5, 25] ?_
 refine aE ?_
 refine ⟨nr, _, rfl, ?_⟩; simp only [zF, zP, aa, V, Mly.av]
 first
 | (rw [pq ‹¬aL m = 0›]; exact m7 (bo rfl))
 | (rw [← hrf, fT _ _ _ _ (by omega)]; exact VLE.of_eq (by simp))
theorem Bq (m : Mly) : cb Try.prog 81 [m.av] (.tup [m.trim.av, .one (.int .i64 (aL m))]) := by
 refine aT Try.func81 rfl (by kernel_rfl) (Nat.le_of_ble_eq_true rfl) rfl fun C hP hN hB => ?_
 replace hN : C.N = 89 := hN
 simp only [bc, V]
 refine ah fun _ k1 => ?_
 refine am hP hN rfl ?_
 iterate 3 (refine aj rfl fun _ k0 => ?_; simp only [zO, zT, acs, reduceCtorEq, aa, V, ad, ag, af, ae, Mly.av]; (repeat refine an ?_); (try refine .inl ?_); apply k0; clear k0; simp only [zP, V])
 refine ao ?_
 apply k1; clear k1; refine kp [0, 1, 2, 3] ?_
 refine ah fun _ k2 => ?_
 refine ah fun _ k3 => ?_
 refine am hP hN rfl ?_
 (refine aj rfl fun _ k0 => ?_; simp only [zO, zT, acs, reduceCtorEq, aa, V, ad, ag, af, ae, Mly.av]; (repeat refine an ?_); (try refine .inl ?_); apply k0; clear k0; simp only [zP, V])
 refine aj rfl fun _ k0 => ?_
 refine aK (h := aC (iu m)) rfl rfl (by first | exact rfl | (simp only [ev, zP, aa, V]; exact rfl)) (by simp only [zV, acs, reduceCtorEq, aa, V, ad, ag, af, ae, Mly.av]) ?_
 apply k0; clear k0; simp only [zP, V]
 (refine aj rfl fun _ k0 => ?_; simp only [zO, zT, acs, reduceCtorEq, aa, V, ad, ag, af, ae, Mly.av]; (repeat refine an ?_); (try refine .inl ?_); apply k0; clear k0; simp only [zP, V])
 refine ao ?_
 apply k3; clear k3; refine kp [0, 1, 2, 3, 4] ?_
 refine ah fun _ k4 => ?_
 refine am hP hN rfl ?_
 iterate 2 (refine aj rfl fun _ k0 => ?_; simp only [zO, zT, acs, reduceCtorEq, aa, V, ad, ag, af, ae, Mly.av]; (repeat refine an ?_); (try refine .inl ?_); apply k0; clear k0; simp only [zP, V])
 refine ao ?_
 apply k4; clear k4; refine kp [0, 1, 2, 3, 4, 18] ?_
 refine cd (fun hc5 => ?_) (fun hc5 => ?_)
 ·(try simp only [zB, reduceCtorEq] at hc5)
  refine ah fun _ k6 => ?_
  refine am hP hN rfl ?_
  iterate 4 (refine aj rfl fun _ k0 => ?_; simp only [zO, zT, acs, reduceCtorEq, aa, V, ad, ag, af, ae, Mly.av]; (repeat refine an ?_); (try refine .inl ?_); apply k0; clear k0; simp only [zP, V])
  refine ao ?_
  apply k6; clear k6; refine kp [0, 1, 2, 3, 4, 18] ?_
  refine aE ?_
  refine ⟨nr, _, rfl, ?_⟩; simp only [zF, zP, aa, V, Mly.av]
  first
  | (rw [sh ‹¬aL m = 0›]
     exact bE ⟨dM ⟨.refl _, .refl _, bo rfl, bo rfl, trivial⟩, aF (.refl _), trivial⟩)
  | (rw [pw hv, hv]
     have hk3 : k = m.reach.length := by omega
     have e1 : m.tnx.take k = m.tnx := List.take_of_length_le (by simp [Mly.tnx]; omega)
     have e2 : m.tot.take k = m.tot := List.take_of_length_le (by simp [Mly.tot]; omega)
     rw [e1, e2]
     exact VLE.of_eq (by simp [fzC]; rfl))
 (try simp only [zB, reduceCtorEq] at hc5)
 refine ay ?_
 apply k2; clear k2; refine kp [0, 1, 2, 3, 4, 18] ?_
 refine ah fun _ k7 => ?_
 refine am hP hN rfl ?_
 (refine aj rfl fun _ k0 => ?_; simp only [zO, zT, acs, reduceCtorEq, aa, V, ad, ag, af, ae, Mly.av]; (repeat refine an ?_); (try refine .inl ?_); apply k0; clear k0; simp only [zP, V])
 refine aj rfl fun _ k0 => ?_
 refine aK (h := aC (uY m)) rfl rfl (by first | exact rfl | (simp only [ev, zP, aa, V]; exact rfl)) (by simp only [zV, acs, reduceCtorEq, aa, V, ad, ag, af, ae, Mly.av]) ?_
 apply k0; clear k0; simp only [zP, V]
 (refine aj rfl fun _ k0 => ?_; simp only [zO, zT, acs, reduceCtorEq, aa, V, ad, ag, af, ae, Mly.av]; (repeat refine an ?_); (try refine .inl ?_); apply k0; clear k0; simp only [zP, V])
 refine ao ?_
 apply k7; clear k7; refine kp [0, 1, 2, 3, 4, 5, 18] ?_
 refine ah fun _ k8 => ?_
 have hv : aL m = 0 := by assumption
 have hm := eJ hv; have h3 := hm.n2; have hR := gk hm; have hRl := hR.len; have hi1 := hm.i1; have hi2 := hm.i2; have hol := hm.ol
 refine am hP hN rfl ?_
 iterate 3 (refine aj rfl fun _ k0 => ?_; simp only [zO, zT, acs, reduceCtorEq, aa, V, ad, ag, af, ae, Mly.av]; (repeat refine an ?_); (try refine .inl ?_); apply k0; clear k0; simp only [zP, V])
 (refine aj rfl fun _ k0 => ?_; simp only [zE, op1, ev, lkp, d7, ca, bZ, df, Nat.mul_one, ci, cT, acs, Ty.dflt, zG, cm, cq, fb, eB, cP, db, eH, Nat.div_one, cM, dg, Ty.size, bC, dite_true, cR, reduceCtorEq, aa, V, ad, ag, af, ae, Try.el22, Try.el41, Try.st24, Try.td2, Try.td22, Try.td24, Try.td3, Try.td41, Mly.av]; (repeat refine an ?_); (try refine .inl ?_); apply k0; clear k0; simp only [zP, V])
 (refine aj rfl fun _ k0 => ?_; simp only [zO, zT, acs, reduceCtorEq, aa, V, ad, ag, af, ae, Mly.av]; (repeat refine an ?_); (try refine .inl ?_); apply k0; clear k0; simp only [zP, V])
 refine ao ?_
 apply k8; clear k8; refine kp [0, 1, 2, 3, 4, 5, 6, 18] ?_
 refine ah fun _ k9 => ?_
 refine ah fun _ k10 => ?_
 refine am hP hN rfl ?_
 iterate 3 (refine aj rfl fun _ k0 => ?_; simp only [zO, zT, acs, reduceCtorEq, aa, V, ad, ag, af, ae, Mly.av]; (repeat refine an ?_); (try refine .inl ?_); apply k0; clear k0; simp only [zP, V])
 refine ao ?_
 apply k10; clear k10; refine kp [0, 1, 2, 3, 4, 5, 6, 18, 27, 28, 29] ?_
 refine aD ?_
 refine bn (fun n11 s11 => ∃ (k : Nat), (k ≤ m.reach.length) ∧ n11 = m.reach.length - k ∧ s11 = { env := [(1, .one (.ptr 0 0 0 0)), (2, .one (.ptr 1 0 0 0)), (5, .one (.list (.int .i64) m.reach)), (6, .one (.row 2 0)), (27, .one (.list (.int .i64) m.reach)), (28, .one (.int .i64 (m.reach.length : Int))), (29, .one (.int .i64 (k : Int)))], L := [.vars 24 [.int .i64 m.inp, .int .i64 m.st, .list (.list (.int .i64)) m.nx, .list (.list (.int .i64)) m.ot], .vars 24 [.int .i64 0, .int .i64 0, .nils, .nils], .row (.int .i64) 3 0 (nT m.nx.length m.reach k)] }) ?_ ?_
 ·exact ⟨_, _, aA [1, 2, 5, 6, 27, 28, 29], 0, Nat.zero_le _, rfl, rfl⟩
 rintro n11 s11 ⟨k, hk, rfl, rfl⟩
 refine ah fun _ k12 => ?_
 refine am hP hN rfl ?_
 (refine aj rfl fun _ k0 => ?_; simp only [zO, zT, acs, reduceCtorEq, aa, V, ad, ag, af, ae, Mly.av]; (repeat refine an ?_); (try refine .inl ?_); apply k0; clear k0; simp only [zP, V])
 refine ao ?_
 apply k12; clear k12; refine kp [1, 2, 5, 6, 27, 28, 29, 30] ?_
 refine ah fun _ k13 => ?_
 refine cd (fun hc14 => ?_) (fun hc14 => ?_)
 ·(try simp only [zB, reduceCtorEq] at hc14)
  refine ay ?_
  apply k13; clear k13; refine kp [1, 2, 5, 6, 27, 28, 29, 30] ?_
  refine ah fun _ k15 => ?_
  refine aD ?_
  refine ah fun _ k16 => ?_
  refine am hP hN rfl ?_
  iterate 5 (refine aj rfl fun _ k0 => ?_; simp only [zO, zT, acs, reduceCtorEq, aa, V, ad, ag, af, ae, Mly.av]; (repeat refine an ?_); (try refine .inl ?_); apply k0; clear k0; simp only [zP, V])
  refine ao ?_
  apply k16; clear k16; refine kp [1, 2, 5, 6, 7, 8, 27, 28, 29, 30] ?_
  have hx := hR.at_ (i := k) (by omega); have hnl := kZ m.nx.length m.reach k
  refine am hP hN rfl ?_
  iterate 5 (refine aj rfl fun _ k0 => ?_; simp only [zO, zT, acs, reduceCtorEq, aa, V, ad, ag, af, ae, Mly.av]; (repeat refine an ?_); (try refine .inl ?_); apply k0; clear k0; simp only [zP, V])
  refine ao ?_
  apply k15; clear k15; refine kp [1, 2, 5, 6, 7, 8, 27, 28, 29, 30] ?_
  refine am hP hN rfl ?_
  iterate 2 (refine aj rfl fun _ k0 => ?_; simp only [zO, zT, acs, reduceCtorEq, aa, V, ad, ag, af, ae, Mly.av]; (repeat refine an ?_); (try refine .inl ?_); apply k0; clear k0; simp only [zP, V])
  refine ao ?_
  refine ⟨_, _, ?_, aA [1, 2, 5, 6, 27, 28, 29], k + 1, by omega, rfl, rfl⟩
  · omega
 (try simp only [zB, reduceCtorEq] at hc14)
 refine aZ ?_
 apply k9; clear k9; refine kp [1, 2, 5, 6, 27, 28, 29, 30] ?_
 refine ah fun _ k17 => ?_
 refine am hP hN rfl ?_
 iterate 5 (refine aj rfl fun _ k0 => ?_; simp only [zO, zT, acs, reduceCtorEq, aa, V, ad, ag, af, ae, Mly.av]; (repeat refine an ?_); (try refine .inl ?_); apply k0; clear k0; simp only [zP, V])
 refine ao ?_
 apply k17; clear k17; refine kp [1, 2, 5, 6, 9, 27, 28, 29, 30] ?_
 refine ah fun _ k18 => ?_
 refine ah fun _ k19 => ?_
 refine am hP hN rfl ?_
 iterate 3 (refine aj rfl fun _ k0 => ?_; simp only [zO, zT, acs, reduceCtorEq, aa, V, ad, ag, af, ae, Mly.av]; (repeat refine an ?_); (try refine .inl ?_); apply k0; clear k0; simp only [zP, V])
 refine ao ?_
 apply k19; clear k19; refine kp [1, 2, 5, 6, 9, 27, 28, 29, 30, 42, 43, 44] ?_
 refine aD ?_
 refine fh 3 2 (.list (.int .i64)) 41 (by decide) rfl rfl ?_; simp only [zS, ax, aI, aN, b6, Nat.zero_add, V]
 refine fh 3 3 (.list (.int .i64)) 41 (by decide) rfl rfl ?_; simp only [zS, ax, aI, aN, b6, Nat.zero_add, V]
 have hkl : k = m.reach.length := by omega
 refine bn (fun n20 s20 => ∃ (k : Nat) (v : Nat), (k ≤ m.reach.length) ∧ n20 = m.reach.length - k ∧ s20 = { env := [(1, .one (.ptr 0 0 0 0)), (2, .one (.ptr 1 0 0 0)), (6, .one (.row 2 0)), (9, .one (.ptr 3 0 0 0)), (42, .one (.list (.int .i64) m.reach)), (43, .one (.int .i64 (m.reach.length : Int))), (44, .one (.int .i64 (k : Int)))], L := [.vars 24 [.int .i64 m.inp, .int .i64 m.st, .list (.list (.int .i64)) m.nx, .list (.list (.int .i64)) m.ot], .vars 24 [.int .i64 0, .int .i64 0, .nils, .nils], .row (.int .i64) 3 0 m.num, .vars 24 [.int .i64 m.inp, .int .i64 0, .row 4 v, .row 5 v], .row (.list (.int .i64)) 41 v (m.tnx.take k), .row (.list (.int .i64)) 41 v (m.tot.take k)] }) ?_ ?_
 ·refine ⟨_, _, aA [1, 2, 6, 9, 42, 43, 44], 0, 0, Nat.zero_le _, rfl, ?_⟩
  rw [hkl]; rfl
 rintro n20 s20 ⟨k, v, hk2, rfl, rfl⟩
 refine ah fun _ k21 => ?_
 refine am hP hN rfl ?_
 (refine aj rfl fun _ k0 => ?_; simp only [zO, zT, acs, reduceCtorEq, aa, V, ad, ag, af, ae, Mly.av]; (repeat refine an ?_); (try refine .inl ?_); apply k0; clear k0; simp only [zP, V])
 refine ao ?_
 apply k21; clear k21; refine kp [1, 2, 6, 9, 42, 43, 44, 45] ?_
 refine ah fun _ k22 => ?_
 refine cd (fun hc23 => ?_) (fun hc23 => ?_)
 ·(try simp only [zB, reduceCtorEq] at hc23)
  refine ay ?_
  apply k22; clear k22; refine kp [1, 2, 6, 9, 42, 43, 44, 45] ?_
  refine ah fun _ k24 => ?_
  refine aD ?_
  refine ah fun _ k25 => ?_
  have hx := hR.at_ (i := k) (by omega)
  refine am hP hN rfl ?_
  iterate 3 (refine aj rfl fun _ k0 => ?_; simp only [zO, zT, acs, reduceCtorEq, aa, V, ad, ag, af, ae, Mly.av]; (repeat refine an ?_); (try refine .inl ?_); apply k0; clear k0; simp only [zP, V])
  refine ao ?_
  apply k25; clear k25; refine kp [1, 2, 6, 9, 11, 42, 43, 44, 45] ?_
  refine ah fun _ k26 => ?_
  have hrow : ((m.row (m.reach.getD k 0)).length : Int) = m.inp := hm.rl (m.reach.getD k 0).toNat (by omega); have hrot := hm.ql (m.reach.getD k 0).toNat (by omega)
  refine am hP hN rfl ?_
  iterate 2 (refine aj rfl fun _ k0 => ?_; simp only [zO, zT, acs, reduceCtorEq, aa, V, ad, ag, af, ae, Mly.av]; (repeat refine an ?_); (try refine .inl ?_); apply k0; clear k0; simp only [zP, V])
  (refine aj rfl fun _ k0 => ?_; simp only [zE, op1, ev, lkp, d7, ca, bZ, df, Nat.mul_one, ci, cT, acs, Ty.dflt, zG, cm, cR, bC, Ty.size, reduceCtorEq, aa, V, ad, ag, af, ae, Try.el41, Try.st24, Try.td24, Try.td3, Try.td41, Mly.av]; (repeat refine an ?_); (try refine .inl ?_); apply k0; clear k0; simp only [zP, V])
  (refine aj rfl fun _ k0 => ?_; simp only [zO, zT, acs, reduceCtorEq, aa, V, ad, ag, af, ae, Mly.av]; (repeat refine an ?_); (try refine .inl ?_); apply k0; clear k0; simp only [zP, V])
  refine ao ?_
  apply k26; clear k26; refine kp [1, 2, 6, 9, 11, 12, 42, 43, 44, 45] ?_
  refine ah fun _ k27 => ?_
  refine ah fun _ k28 => ?_
  refine am hP hN rfl ?_
  iterate 7 (refine aj rfl fun _ k0 => ?_; simp only [zO, zT, acs, reduceCtorEq, aa, V, ad, ag, af, ae, Mly.av]; (repeat refine an ?_); (try refine .inl ?_); apply k0; clear k0; simp only [zP, V])
  refine ao ?_
  apply k28; clear k28; refine kp [1, 2, 6, 9, 11, 12, 42, 43, 44, 45, 55, 56, 57] ?_
  refine aD ?_
  refine bn (fun n29 s29 => ∃ (j : Nat), (j ≤ (m.row (m.reach.getD k 0)).length) ∧ n29 = (m.row (m.reach.getD k 0)).length - j ∧ s29 = { env := [(1, .one (.ptr 0 0 0 0)), (2, .one (.ptr 1 0 0 0)), (6, .one (.row 2 0)), (9, .one (.ptr 3 0 0 0)), (11, .one (.int .i64 (m.reach.getD k 0))), (12, .one (.row 6 0)), (42, .one (.list (.int .i64) m.reach)), (43, .one (.int .i64 (m.reach.length : Int))), (44, .one (.int .i64 (k : Int))), (55, .one (.list (.int .i64) (m.row (m.reach.getD k 0)))), (56, .one (.int .i64 ((m.row (m.reach.getD k 0)).length : Int))), (57, .one (.int .i64 (j : Int)))], L := [.vars 24 [.int .i64 m.inp, .int .i64 m.st, .list (.list (.int .i64)) m.nx, .list (.list (.int .i64)) m.ot], .vars 24 [.int .i64 0, .int .i64 0, .nils, .nils], .row (.int .i64) 3 0 m.num, .vars 24 [.int .i64 m.inp, .int .i64 0, .row 4 v, .row 5 v], .row (.list (.int .i64)) 41 v (m.tnx.take k), .row (.list (.int .i64)) 41 v (m.tot.take k), .row (.int .i64) 3 0 (iv m.num (m.row (m.reach.getD k 0)) j)] }) ?_ ?_
  ·refine ⟨_, _, aA [1, 2, 6, 9, 11, 12, 42, 43, 44, 55, 56, 57], 0, Nat.zero_le _, rfl, ?_⟩
   rw [vg, show (m.row (m.reach.getD k 0)).length = m.inp.toNat by omega]; rfl
  rintro n29 s29 ⟨j, hj, rfl, rfl⟩
  refine ah fun _ k30 => ?_
  refine am hP hN rfl ?_
  (refine aj rfl fun _ k0 => ?_; simp only [zO, zT, acs, reduceCtorEq, aa, V, ad, ag, af, ae, Mly.av]; (repeat refine an ?_); (try refine .inl ?_); apply k0; clear k0; simp only [zP, V])
  refine ao ?_
  apply k30; clear k30; refine kp [1, 2, 6, 9, 11, 12, 42, 43, 44, 55, 56, 57, 58] ?_
  refine ah fun _ k31 => ?_
  refine cd (fun hc32 => ?_) (fun hc32 => ?_)
  ·(try simp only [zB, reduceCtorEq] at hc32)
   refine ay ?_
   apply k31; clear k31; refine kp [1, 2, 6, 9, 11, 12, 42, 43, 44, 55, 56, 57, 58] ?_
   refine ah fun _ k33 => ?_
   refine aD ?_
   refine ah fun _ k34 => ?_
   refine am hP hN rfl ?_
   iterate 5 (refine aj rfl fun _ k0 => ?_; simp only [zO, zT, acs, reduceCtorEq, aa, V, ad, ag, af, ae, Mly.av]; (repeat refine an ?_); (try refine .inl ?_); apply k0; clear k0; simp only [zP, V])
   refine ao ?_
   apply k34; clear k34; refine kp [1, 2, 6, 9, 11, 12, 13, 14, 42, 43, 44, 55, 56, 57, 58] ?_
   have ht := gV hm hx.1 hx.2 ((m.row (m.reach.getD k 0)).getD j 0) (br (by omega)); have hnl : m.num.length = m.nx.length := kZ _ _ _; have hnf := wb m.num (m.row (m.reach.getD k 0)) hj
   refine am hP hN rfl ?_
   iterate 8 (refine aj rfl fun _ k0 => ?_; simp only [zO, zT, acs, reduceCtorEq, aa, V, ad, ag, af, ae, Mly.av]; (repeat refine an ?_); (try refine .inl ?_); apply k0; clear k0; simp only [zP, V])
   refine ao ?_
   apply k33; clear k33; refine kp [1, 2, 6, 9, 11, 12, 13, 14, 42, 43, 44, 55, 56, 57, 58] ?_
   refine am hP hN rfl ?_
   iterate 2 (refine aj rfl fun _ k0 => ?_; simp only [zO, zT, acs, reduceCtorEq, aa, V, ad, ag, af, ae, Mly.av]; (repeat refine an ?_); (try refine .inl ?_); apply k0; clear k0; simp only [zP, V])
   refine ao ?_
   refine ⟨_, _, ?_, aA [1, 2, 6, 9, 11, 12, 42, 43, 44, 55, 56, 57], j + 1, by omega, rfl, ?_⟩
   · omega
   · rw [← wm _ _ (by omega)]; rfl
  (try simp only [zB, reduceCtorEq] at hc32)
  refine aZ ?_
  apply k27; clear k27; refine kp [1, 2, 6, 9, 11, 12, 42, 43, 44, 55, 56, 57, 58] ?_
  refine ah fun _ k35 => ?_
  refine dn 6 rfl ?_; simp only [aJ, bz, zS, aa, and_self, and_true, true_and, and_false, false_and, if_true, if_false, eq_self, reduceCtorEq, Nat.one_ne_zero, Nat.zero_ne_one]
  have htl : (m.tnx.take k).length = k := by simp [Mly.tnx]; omega
  have hol2 : (m.tot.take k).length = k := by simp [Mly.tot]; omega
  refine am hP hN rfl ?_
  iterate 7 (refine aj rfl fun _ k0 => ?_; simp only [zO, zT, acs, reduceCtorEq, aa, V, ad, ag, af, ae, Mly.av]; (repeat refine an ?_); (try refine .inl ?_); apply k0; clear k0; simp only [zP, V])
  refine ao ?_
  apply k35; clear k35; refine kp [1, 2, 6, 9, 11, 12, 42, 43, 44, 55, 56, 57, 58] ?_
  refine bu hP hN Try.mixed rfl ?_
  iterate 7 (refine aj rfl fun _ k0 => ?_; simp only [zO, zT, acs, reduceCtorEq, aa, V, ad, ag, af, ae, Mly.av]; (repeat refine an ?_); (try refine .inl ?_); apply k0; clear k0; simp only [zP, V])
  refine aj rfl fun _ k0 => ?_
  refine aK (h := aC (uE (m.ot.getD (m.reach.getD k 0).toNat []) (by omega))) rfl rfl (by first | exact rfl | (simp only [ev, zP, aa, V]; exact rfl)) (by simp only [zV, acs, reduceCtorEq, aa, V, ad, ag, af, ae, Mly.av]) ?_
  apply k0; clear k0; simp only [zP, V]
  iterate 4 (refine aj rfl fun _ k0 => ?_; simp only [zO, zT, acs, reduceCtorEq, aa, V, ad, ag, af, ae, Mly.av]; (repeat refine an ?_); (try refine .inl ?_); apply k0; clear k0; simp only [zP, V])
  refine ao ?_
  refine ⟨by kernel_rfl, ?_⟩
  apply k24; clear k24; refine kp [1, 2, 6, 9, 11, 12, 42, 43, 44, 55, 56, 57, 58] ?_
  refine d8 (n := 6) (L1 := [_, _, _, _, _, _]) rfl rfl (by rw [hB]; decide) rfl rfl ?_
  refine am hP hN rfl ?_
  iterate 2 (refine aj rfl fun _ k0 => ?_; simp only [zO, zT, acs, reduceCtorEq, aa, V, ad, ag, af, ae, Mly.av]; (repeat refine an ?_); (try refine .inl ?_); apply k0; clear k0; simp only [zP, V])
  refine ao ?_
  have hjr : j = (m.row (m.reach.getD k 0)).length := by omega
  refine ⟨_, _, ?_, aA [1, 2, 6, 9, 42, 43, 44], k + 1, v + 1, by omega, rfl, ?_⟩
  · omega
  · rw [show m.tnx.take (k + 1) = m.tnx.take k ++ [iv m.num (m.row (m.reach.getD k 0)) j] by rw [hjr, wQ]; exact kG _ 0 (by omega), show m.tot.take (k + 1) = m.tot.take k ++ [m.ot.getD (m.reach.getD k 0).toNat []] from kG _ 0 (by omega)]; rfl
 (try simp only [zB, reduceCtorEq] at hc23)
 refine aZ ?_
 apply k18; clear k18; refine kp [1, 2, 6, 9, 42, 43, 44, 45] ?_
 refine ah fun _ k36 => ?_
 refine am hP hN rfl ?_
 iterate 3 (refine aj rfl fun _ k0 => ?_; simp only [zO, zT, acs, reduceCtorEq, aa, V, ad, ag, af, ae, Mly.av]; (repeat refine an ?_); (try refine .inl ?_); apply k0; clear k0; simp only [zP, V])
 refine ao ?_
 apply k36; clear k36; refine kp [1, 2, 3, 6, 9, 42, 43, 44, 45] ?_
 refine aE ?_
 refine ⟨nr, _, rfl, ?_⟩; simp only [zF, zP, aa, V, Mly.av]
 first
 | (rw [sh ‹¬aL m = 0›]
    exact bE ⟨dM ⟨.refl _, .refl _, bo rfl, bo rfl, trivial⟩, aF (.refl _), trivial⟩)
 | (rw [pw hv, hv]
    have hk3 : k = m.reach.length := by omega
    have e1 : m.tnx.take k = m.tnx := List.take_of_length_le (by simp [Mly.tnx]; omega)
    have e2 : m.tot.take k = m.tot := List.take_of_length_le (by simp [Mly.tot]; omega)
    rw [e1, e2]
    exact VLE.of_eq (by simp [fzC]; rfl))
set_option maxHeartbeats 1000000 in
theorem CF (m : Mly) : cb Try.prog 70 [m.av] (.tup [m.mres.av, .one (.int .i64 (aL m))]) := by
 refine aT Try.func70 rfl (by kernel_rfl) (Nat.le_of_ble_eq_true rfl) rfl fun C hP hN hB => ?_
 replace hN : C.N = 84 := hN
 simp only [bc, V]
 refine ah fun _ k1 => ?_
 refine am hP hN rfl ?_
 iterate 3 (refine aj rfl fun _ k0 => ?_; simp only [zO, zT, acs, reduceCtorEq, aa, V, ad, ag, af, ae, Mly.av]; (repeat refine an ?_); (try refine .inl ?_); apply k0; clear k0; simp only [zP, V])
 refine ao ?_
 apply k1; clear k1; refine kp [0, 1, 2, 3] ?_
 refine ah fun _ k2 => ?_
 refine am hP hN rfl ?_
 (refine aj rfl fun _ k0 => ?_; simp only [zO, zT, acs, reduceCtorEq, aa, V, ad, ag, af, ae, Mly.av]; (repeat refine an ?_); (try refine .inl ?_); apply k0; clear k0; simp only [zP, V])
 refine aj rfl fun _ k0 => ?_
 refine aK (h := aC (Bq m)) rfl rfl (by first | exact rfl | (simp only [ev, zP, aa, V]; exact rfl)) (by simp only [zV, acs, reduceCtorEq, aa, V, ad, ag, af, ae, Mly.av]) ?_
 apply k0; clear k0; simp only [zP, V]
 iterate 6 (refine aj rfl fun _ k0 => ?_; simp only [zO, zT, acs, reduceCtorEq, aa, V, ad, ag, af, ae, Mly.av]; (repeat refine an ?_); (try refine .inl ?_); apply k0; clear k0; simp only [zP, V])
 refine ao ?_
 apply k2; clear k2; refine kp [0, 1, 2, 3, 4, 5] ?_
 refine ah fun _ k3 => ?_
 refine ah fun _ k4 => ?_
 refine am hP hN rfl ?_
 iterate 2 (refine aj rfl fun _ k0 => ?_; simp only [zO, zT, acs, reduceCtorEq, aa, V, ad, ag, af, ae, Mly.av]; (repeat refine an ?_); (try refine .inl ?_); apply k0; clear k0; simp only [zP, V])
 refine ao ?_
 apply k4; clear k4; refine kp [0, 1, 2, 3, 4, 5, 19] ?_
 refine cd (fun hc5 => ?_) (fun hc5 => ?_)
 ·(try simp only [zB, reduceCtorEq] at hc5)
  refine ah fun _ k6 => ?_
  refine am hP hN rfl ?_
  iterate 4 (refine aj rfl fun _ k0 => ?_; simp only [zO, zT, acs, reduceCtorEq, aa, V, ad, ag, af, ae, Mly.av]; (repeat refine an ?_); (try refine .inl ?_); apply k0; clear k0; simp only [zP, V])
  refine ao ?_
  apply k6; clear k6; refine kp [0, 1, 2, 3, 4, 5, 19] ?_
  refine aE ?_
  refine ⟨nr, _, rfl, ?_⟩; simp only [zF, zP, aa, V, Mly.av]
  first
  | (rw [nj ‹¬aL m = 0›]; exact bE ⟨dM ⟨.refl _, .refl _, bo rfl, bo rfl, trivial⟩, aF (.refl _), trivial⟩)
  | (have hk3 : k = m.trim.nx.length := by omega
     subst hk3
     rw [uP hv, hv]
     exact VLE.of_eq (by simp [fzC]; rfl))
 (try simp only [zB, reduceCtorEq] at hc5)
 have hv : aL m = 0 := by omega
 have hm := eJ hv; have ht : MOK m.trim := by rw [x3 hv]; exact rG hm
 have hvt := dv ht; have hst := fF ht; have hel := hst.len; have hn2 := ht.n2; have hi1 := ht.i1; have hi2 := ht.i2; have hol := ht.ol; have hn1 := ht.n1
 refine ay ?_
 apply k3; clear k3; refine kp [0, 1, 2, 3, 4, 5, 19] ?_
 refine ah fun _ k7 => ?_
 refine am hP hN rfl ?_
 (refine aj rfl fun _ k0 => ?_; simp only [zO, zT, acs, reduceCtorEq, aa, V, ad, ag, af, ae, Mly.av]; (repeat refine an ?_); (try refine .inl ?_); apply k0; clear k0; simp only [zP, V])
 refine aj rfl fun _ k0 => ?_
 refine aK (h := aC (vy m.trim hvt)) rfl rfl (by first | exact rfl | (simp only [ev, zP, aa, V]; exact rfl)) (by simp only [zV, acs, reduceCtorEq, aa, V, ad, ag, af, ae, Mly.av]) ?_
 apply k0; clear k0; simp only [zP, V]
 iterate 5 (refine aj rfl fun _ k0 => ?_; simp only [zO, zT, acs, reduceCtorEq, aa, V, ad, ag, af, ae, Mly.av]; (repeat refine an ?_); (try refine .inl ?_); apply k0; clear k0; simp only [zP, V])
 refine ao ?_
 apply k7; clear k7; refine kp [0, 1, 2, 3, 4, 5, 6, 19] ?_
 refine ah fun _ k8 => ?_
 refine ah fun _ k9 => ?_
 refine am hP hN rfl ?_
 iterate 2 (refine aj rfl fun _ k0 => ?_; simp only [zO, zT, acs, reduceCtorEq, aa, V, ad, ag, af, ae, Mly.av]; (repeat refine an ?_); (try refine .inl ?_); apply k0; clear k0; simp only [zP, V])
 refine ao ?_
 apply k9; clear k9; refine kp [0, 1, 2, 3, 4, 5, 6, 19, 28] ?_
 refine cd (fun hc10 => ?_) (fun hc10 => ?_)
 · exfalso; (try simp only [zB, reduceCtorEq] at hc10); all_goals (first | (cases hc10; done) | omega | (simp at hc10; done) | (simp_all; done))
 (try simp only [zB, reduceCtorEq] at hc10)
 refine ay ?_
 apply k8; clear k8; refine kp [0, 1, 2, 3, 4, 5, 6, 19, 28] ?_
 refine ah fun _ k11 => ?_
 refine am hP hN rfl ?_
 iterate 5 (refine aj rfl fun _ k0 => ?_; simp only [zO, zT, acs, reduceCtorEq, aa, V, ad, ag, af, ae, Mly.av]; (repeat refine an ?_); (try refine .inl ?_); apply k0; clear k0; simp only [zP, V])
 refine ao ?_
 apply k11; clear k11; refine kp [0, 1, 2, 3, 4, 5, 6, 7, 19, 28] ?_
 refine ah fun _ k12 => ?_
 refine ah fun _ k13 => ?_
 refine am hP hN rfl ?_
 iterate 3 (refine aj rfl fun _ k0 => ?_; simp only [zO, zT, acs, reduceCtorEq, aa, V, ad, ag, af, ae, Mly.av]; (repeat refine an ?_); (try refine .inl ?_); apply k0; clear k0; simp only [zP, V])
 refine ao ?_
 apply k13; clear k13; refine kp [0, 1, 2, 3, 4, 5, 6, 7, 19, 28, 34, 35, 36] ?_
 refine aD ?_
 refine fh 3 2 (.list (.int .i64)) 41 (by decide) rfl rfl ?_; simp only [zS, ax, aI, aN, b6, Nat.zero_add, V]
 refine fh 3 3 (.list (.int .i64)) 41 (by decide) rfl rfl ?_; simp only [zS, ax, aI, aN, b6, Nat.zero_add, V]
 refine bn (fun n14 s14 => ∃ (k : Nat) (v : Nat), (k ≤ m.trim.nx.length) ∧ n14 = m.trim.nx.length - k ∧ s14 = { env := [(2, .one (.ptr 1 0 0 0)), (3, .one (.int .i64 0)), (4, .one (.ptr 2 0 0 0)), (6, .one (.list (.int .i64) m.trim.eqc)), (7, .one (.ptr 3 0 0 0)), (34, .one (.list (.int .i64) m.trim.eqc)), (35, .one (.int .i64 (m.trim.eqc.length : Int))), (36, .one (.int .i64 (k : Int)))], L := [.vars 24 [.int .i64 m.inp, .int .i64 m.st, .list (.list (.int .i64)) m.nx, .list (.list (.int .i64)) m.ot], .vars 24 [.int .i64 0, .int .i64 0, .nils, .nils], .vars 24 [.int .i64 m.trim.inp, .int .i64 m.trim.st, .list (.list (.int .i64)) m.trim.nx, .list (.list (.int .i64)) m.trim.ot], .vars 24 [.int .i64 m.trim.inp, .int .i64 0, .row 4 v, .row 5 v], .row (.list (.int .i64)) 41 v (m.trim.qN k), .row (.list (.int .i64)) 41 v (m.trim.qO k)] }) ?_ ?_
 ·refine ⟨_, _, aA [2, 3, 4, 6, 7, 34, 35, 36], 0, 0, Nat.zero_le _, rfl, rfl⟩
 rintro n14 s14 ⟨k, v, hk, rfl, rfl⟩
 refine ah fun _ k15 => ?_
 refine am hP hN rfl ?_
 (refine aj rfl fun _ k0 => ?_; simp only [zO, zT, acs, reduceCtorEq, aa, V, ad, ag, af, ae, Mly.av]; (repeat refine an ?_); (try refine .inl ?_); apply k0; clear k0; simp only [zP, V])
 refine ao ?_
 apply k15; clear k15; refine kp [2, 3, 4, 6, 7, 34, 35, 36, 37] ?_
 refine ah fun _ k16 => ?_
 refine cd (fun hc17 => ?_) (fun hc17 => ?_)
 ·(try simp only [zB, reduceCtorEq] at hc17)
  refine ay ?_
  apply k16; clear k16; refine kp [2, 3, 4, 6, 7, 34, 35, 36, 37] ?_
  refine ah fun _ k18 => ?_
  refine aD ?_
  refine ah fun _ k19 => ?_
  refine am hP hN rfl ?_
  iterate 5 (refine aj rfl fun _ k0 => ?_; simp only [zO, zT, acs, reduceCtorEq, aa, V, ad, ag, af, ae, Mly.av]; (repeat refine an ?_); (try refine .inl ?_); apply k0; clear k0; simp only [zP, V])
  refine ao ?_
  apply k19; clear k19; refine kp [2, 3, 4, 6, 7, 8, 9, 34, 35, 36, 37] ?_
  refine ah fun _ k20 => ?_
  refine ah fun _ k21 => ?_
  have hrp := (tm (gZ ht) k (by omega)).len; have hql := Bz m.trim k; have hqo := Bv m.trim k; have hcb := gZ ht k (by omega); simp only [iV, Bool.or_eq_false_iff, decide_eq_false_iff_not] at hcb
  refine am hP hN rfl ?_
  iterate 5 (refine aj rfl fun _ k0 => ?_; simp only [zO, zT, acs, reduceCtorEq, aa, V, ad, ag, af, ae, Mly.av]; (repeat refine an ?_); (try refine .inl ?_); apply k0; clear k0; simp only [zP, V])
  refine ao ?_
  apply k21; clear k21; refine kp [2, 3, 4, 6, 7, 8, 9, 34, 35, 36, 37, 45] ?_
  refine cd (fun hc22 => ?_) (fun hc22 => ?_)
  ·(try simp only [zB, reduceCtorEq] at hc22)
   refine aZ ?_
   apply k18; clear k18; refine kp [2, 3, 4, 6, 7, 8, 9, 34, 35, 36, 37, 45] ?_
   first | (refine d8 (n := 7) (L1 := [_, _, _, _, _, _, _]) rfl rfl (by rw [hB]; decide) rfl rfl ?_; refine d8 (n := 6) (L1 := [_, _, _, _, _, _]) rfl rfl (by rw [hB]; decide) rfl rfl ?_) | skip
   refine am hP hN rfl ?_
   iterate 2 (refine aj rfl fun _ k0 => ?_; simp only [zO, zT, acs, reduceCtorEq, aa, V, ad, ag, af, ae, Mly.av]; (repeat refine an ?_); (try refine .inl ?_); apply k0; clear k0; simp only [zP, V])
   refine ao ?_
   first
   | (have hnw : ¬ m.trim.eqc.getD k 0 = cN m.trim.eqc k := by omega
      refine ⟨_, _, ?_, aA [2, 3, 4, 6, 7, 34, 35, 36], k + 1, v, by omega, rfl, ?_⟩
      · omega
      · rw [(oZ hnw).1, (oZ hnw).2]; rfl)
   | (have hnw : m.trim.eqc.getD k 0 = cN m.trim.eqc k := by omega
      have hjr : j = (m.trim.nx.getD k []).length := by omega
      have htk : ((m.trim.nx.getD k []).take j).map m.trim.f = (m.trim.nx.getD k []).map m.trim.f := by rw [hjr, aO]
      refine ⟨_, _, ?_, aA [2, 3, 4, 6, 7, 34, 35, 36], k + 1, v + 1, by omega, rfl, ?_⟩
      · omega
      · rw [(oV hnw).1, (oV hnw).2, ← htk]; rfl)
  (try simp only [zB, reduceCtorEq] at hc22)
  refine ay ?_
  apply k20; clear k20; refine kp [2, 3, 4, 6, 7, 8, 9, 34, 35, 36, 37, 45] ?_
  refine ah fun _ k23 => ?_
  refine am hP hN rfl ?_
  (refine aj rfl fun _ k0 => ?_; simp only [zO, zT, acs, reduceCtorEq, aa, V, ad, ag, af, ae, Mly.av]; (repeat refine an ?_); (try refine .inl ?_); apply k0; clear k0; simp only [zP, V])
  refine ao ?_
  apply k23; clear k23; refine kp [2, 3, 4, 6, 7, 8, 9, 10, 34, 35, 36, 37, 45] ?_
  refine ah fun _ k24 => ?_
  refine ah fun _ k25 => ?_
  have hrl := ht.rl k (by omega); have hrq := ht.ql k (by omega)
  refine am hP hN rfl ?_
  iterate 7 (refine aj rfl fun _ k0 => ?_; simp only [zO, zT, acs, reduceCtorEq, aa, V, ad, ag, af, ae, Mly.av]; (repeat refine an ?_); (try refine .inl ?_); apply k0; clear k0; simp only [zP, V])
  refine ao ?_
  apply k25; clear k25; refine kp [2, 3, 4, 6, 7, 8, 9, 10, 34, 35, 36, 37, 45, 50, 51, 52] ?_
  refine aD ?_
  refine fP 10 (.int .i64) 3 (by decide) rfl ?_; simp only [ax, aI, aN, b6, Nat.zero_add, V]
  refine bn (fun n26 s26 => ∃ (j : Nat) (v2 : Nat), (j ≤ (m.trim.nx.getD k []).length) ∧ n26 = (m.trim.nx.getD k []).length - j ∧ s26 = { env := [(2, .one (.ptr 1 0 0 0)), (3, .one (.int .i64 0)), (4, .one (.ptr 2 0 0 0)), (6, .one (.list (.int .i64) m.trim.eqc)), (7, .one (.ptr 3 0 0 0)), (8, .one (.int .i64 (k : Int))), (9, .one (.int .i64 (m.trim.eqc.getD k 0))), (10, .one (.row 6 v2)), (34, .one (.list (.int .i64) m.trim.eqc)), (35, .one (.int .i64 (m.trim.eqc.length : Int))), (36, .one (.int .i64 (k : Int))), (50, .one (.list (.int .i64) (m.trim.nx.getD k []))), (51, .one (.int .i64 ((m.trim.nx.getD k []).length : Int))), (52, .one (.int .i64 (j : Int)))], L := [.vars 24 [.int .i64 m.inp, .int .i64 m.st, .list (.list (.int .i64)) m.nx, .list (.list (.int .i64)) m.ot], .vars 24 [.int .i64 0, .int .i64 0, .nils, .nils], .vars 24 [.int .i64 m.trim.inp, .int .i64 m.trim.st, .list (.list (.int .i64)) m.trim.nx, .list (.list (.int .i64)) m.trim.ot], .vars 24 [.int .i64 m.trim.inp, .int .i64 0, .row 4 v, .row 5 v], .row (.list (.int .i64)) 41 v (m.trim.qN k), .row (.list (.int .i64)) 41 v (m.trim.qO k), .row (.int .i64) 3 v2 (((m.trim.nx.getD k []).take j).map m.trim.f)] }) ?_ ?_
  ·refine ⟨_, _, aA [2, 3, 4, 6, 7, 8, 9, 10, 34, 35, 36, 50, 51, 52], 0, 0, Nat.zero_le _, rfl, rfl⟩
  rintro n26 s26 ⟨j, v2, hj, rfl, rfl⟩
  refine ah fun _ k27 => ?_
  refine am hP hN rfl ?_
  (refine aj rfl fun _ k0 => ?_; simp only [zO, zT, acs, reduceCtorEq, aa, V, ad, ag, af, ae, Mly.av]; (repeat refine an ?_); (try refine .inl ?_); apply k0; clear k0; simp only [zP, V])
  refine ao ?_
  apply k27; clear k27; refine kp [2, 3, 4, 6, 7, 8, 9, 10, 34, 35, 36, 50, 51, 52, 53] ?_
  refine ah fun _ k28 => ?_
  refine cd (fun hc29 => ?_) (fun hc29 => ?_)
  ·(try simp only [zB, reduceCtorEq] at hc29)
   refine ay ?_
   apply k28; clear k28; refine kp [2, 3, 4, 6, 7, 8, 9, 10, 34, 35, 36, 50, 51, 52, 53] ?_
   refine ah fun _ k30 => ?_
   refine aD ?_
   refine ah fun _ k31 => ?_
   refine am hP hN rfl ?_
   iterate 3 (refine aj rfl fun _ k0 => ?_; simp only [zO, zT, acs, reduceCtorEq, aa, V, ad, ag, af, ae, Mly.av]; (repeat refine an ?_); (try refine .inl ?_); apply k0; clear k0; simp only [zP, V])
   refine ao ?_
   apply k31; clear k31; refine kp [2, 3, 4, 6, 7, 8, 9, 10, 12, 34, 35, 36, 50, 51, 52, 53] ?_
   have hnr := ht.nr k j (by omega) (by omega)
   refine am hP hN rfl ?_
   iterate 8 (refine aj rfl fun _ k0 => ?_; simp only [zO, zT, acs, reduceCtorEq, aa, V, ad, ag, af, ae, Mly.av, aw, List.length_take]; (repeat refine an ?_); (try refine .inl ?_); apply k0; clear k0; simp only [zP, V])
   refine ao ?_
   apply k30; clear k30; refine kp [2, 3, 4, 6, 7, 8, 9, 10, 12, 34, 35, 36, 50, 51, 52, 53] ?_
   refine am hP hN rfl ?_
   iterate 2 (refine aj rfl fun _ k0 => ?_; simp only [zO, zT, acs, reduceCtorEq, aa, V, ad, ag, af, ae, Mly.av]; (repeat refine an ?_); (try refine .inl ?_); apply k0; clear k0; simp only [zP, V])
   refine ao ?_
   refine ⟨_, _, ?_, aA [2, 3, 4, 6, 7, 8, 9, 10, 34, 35, 36, 50, 51, 52], j + 1, v2 + 1, by omega, rfl, ?_⟩
   · omega
   · rw [oK m.trim.f (by omega)]; rfl
  (try simp only [zB, reduceCtorEq] at hc29)
  refine aZ ?_
  apply k24; clear k24; refine kp [2, 3, 4, 6, 7, 8, 9, 10, 34, 35, 36, 50, 51, 52, 53] ?_
  refine ah fun _ k32 => ?_
  refine dn 6 rfl ?_; simp only [aJ, bz, zS, aa, and_self, and_true, true_and, and_false, false_and, if_true, if_false, eq_self, reduceCtorEq, Nat.one_ne_zero, Nat.zero_ne_one]
  have hrle := A8 m.trim.eqc k
  refine am hP hN rfl ?_
  iterate 7 (refine aj rfl fun _ k0 => ?_; simp only [zO, zT, acs, reduceCtorEq, aa, V, ad, ag, af, ae, Mly.av]; (repeat refine an ?_); (try refine .inl ?_); apply k0; clear k0; simp only [zP, V])
  refine ao ?_
  apply k32; clear k32; refine kp [2, 3, 4, 6, 7, 8, 9, 10, 34, 35, 36, 50, 51, 52, 53] ?_
  refine j6 ?_; simp only [aN, List.append_assoc, b6]
  refine bu hP hN Try.mixed rfl ?_
  iterate 2 (refine aj rfl fun _ k0 => ?_; simp only [zO, zT, acs, reduceCtorEq, aa, V, ad, ag, af, ae, Mly.av]; (repeat refine an ?_); (try refine .inl ?_); apply k0; clear k0; simp only [zP, V])
  (refine aj rfl fun _ k0 => ?_; simp only [zO, zT, acs, reduceCtorEq, aa, V, ad, ag, af, ae, Mly.av]; (repeat refine an ?_); refine Or.inr (Or.inr (Or.inl ⟨7, by exact rfl, ?_⟩)); refine k0 _ ?_; clear k0; simp only [zP, V])
  iterate 5 (refine aj rfl fun _ k0 => ?_; simp only [zO, zT, acs, reduceCtorEq, aa, V, ad, ag, af, ae, Mly.av]; (repeat refine an ?_); (try refine .inl ?_); apply k0; clear k0; simp only [zP, V])
  (refine aj rfl fun _ k0 => ?_; simp only [zO, zT, acs, reduceCtorEq, aa, V, ad, ag, af, ae, Mly.av]; (repeat refine an ?_); refine Or.inr (k0 _ ?_); clear k0; simp only [zP, V])
  iterate 4 (refine aj rfl fun _ k0 => ?_; simp only [zO, zT, acs, reduceCtorEq, aa, V, ad, ag, af, ae, Mly.av]; (repeat refine an ?_); (try refine .inl ?_); apply k0; clear k0; simp only [zP, V])
  refine ao ?_
  refine ⟨by kernel_rfl, ?_⟩
  apply k18; clear k18; refine kp [2, 3, 4, 6, 7, 8, 9, 10, 34, 35, 36, 50, 51, 52, 53] ?_
  first | (refine d8 (n := 7) (L1 := [_, _, _, _, _, _, _]) rfl rfl (by rw [hB]; decide) rfl rfl ?_; refine d8 (n := 6) (L1 := [_, _, _, _, _, _]) rfl rfl (by rw [hB]; decide) rfl rfl ?_) | skip
  refine am hP hN rfl ?_
  iterate 2 (refine aj rfl fun _ k0 => ?_; simp only [zO, zT, acs, reduceCtorEq, aa, V, ad, ag, af, ae, Mly.av]; (repeat refine an ?_); (try refine .inl ?_); apply k0; clear k0; simp only [zP, V])
  refine ao ?_
  first
  | (have hnw : ¬ m.trim.eqc.getD k 0 = cN m.trim.eqc k := by omega
     refine ⟨_, _, ?_, aA [2, 3, 4, 6, 7, 34, 35, 36], k + 1, v, by omega, rfl, ?_⟩
     · omega
     · rw [(oZ hnw).1, (oZ hnw).2]; rfl)
  | (have hnw : m.trim.eqc.getD k 0 = cN m.trim.eqc k := by omega
     have hjr : j = (m.trim.nx.getD k []).length := by omega
     have htk : ((m.trim.nx.getD k []).take j).map m.trim.f = (m.trim.nx.getD k []).map m.trim.f := by rw [hjr, aO]
     refine ⟨_, _, ?_, aA [2, 3, 4, 6, 7, 34, 35, 36], k + 1, v + 1, by omega, rfl, ?_⟩
     · omega
     · rw [(oV hnw).1, (oV hnw).2, ← htk]; rfl)
 (try simp only [zB, reduceCtorEq] at hc17)
 refine aZ ?_
 apply k12; clear k12; refine kp [2, 3, 4, 6, 7, 34, 35, 36, 37] ?_
 refine ah fun _ k33 => ?_
 refine am hP hN rfl ?_
 iterate 3 (refine aj rfl fun _ k0 => ?_; simp only [zO, zT, acs, reduceCtorEq, aa, V, ad, ag, af, ae, Mly.av]; (repeat refine an ?_); (try refine .inl ?_); apply k0; clear k0; simp only [zP, V])
 refine ao ?_
 apply k33; clear k33; refine kp [2, 3, 4, 6, 7, 34, 35, 36, 37] ?_
 refine aE ?_
 refine ⟨nr, _, rfl, ?_⟩; simp only [zF, zP, aa, V, Mly.av]
 first
 | (rw [nj ‹¬aL m = 0›]; exact bE ⟨dM ⟨.refl _, .refl _, bo rfl, bo rfl, trivial⟩, aF (.refl _), trivial⟩)
 | (have hk3 : k = m.trim.nx.length := by omega
    subst hk3
    rw [uP hv, hv]
    exact VLE.of_eq (by simp [fzC]; rfl))
theorem yw (m : Mly) : cb Try.prog 50 [m.av] (.one (.bool (mnB m))) := by
 refine aT Try.func50 rfl (by kernel_rfl) (Nat.le_of_ble_eq_true rfl) rfl fun C hP hN hB => ?_
 replace hN : C.N = 33 := hN
 simp only [bc, V]
 refine ah fun _ k1 => ?_
 refine am hP hN rfl ?_
 iterate 2 (refine aj rfl fun _ k0 => ?_; simp only [zO, zT, acs, reduceCtorEq, aa, V, ad, ag, af, ae, Mly.av]; (repeat refine an ?_); (try refine .inl ?_); apply k0; clear k0; simp only [zP, V])
 refine ao ?_
 apply k1; clear k1; refine kp [0, 1, 2] ?_
 refine ah fun _ k2 => ?_
 refine ah fun _ k3 => ?_
 refine bu hP hN Try.mixed rfl ?_
 (refine aj rfl fun _ k0 => ?_; simp only [zO, zT, acs, reduceCtorEq, aa, V, ad, ag, af, ae, Mly.av]; (repeat refine an ?_); (try refine .inl ?_); apply k0; clear k0; simp only [zP, V])
 refine aj rfl fun _ k0 => ?_
 refine aK (h := aC (iu m)) rfl rfl (by first | exact rfl | (simp only [ev, zP, aa, V]; exact rfl)) (by simp only [zV, acs, reduceCtorEq, aa, V, ad, ag, af, ae, Mly.av]) ?_
 apply k0; clear k0; simp only [zP, V]
 iterate 2 (refine aj rfl fun _ k0 => ?_; simp only [zO, zT, acs, reduceCtorEq, aa, V, ad, ag, af, ae, Mly.av]; (repeat refine an ?_); (try refine .inl ?_); apply k0; clear k0; simp only [zP, V])
 refine' aR (want := false) 7 rfl (m := 8) (by simp only [zP, aa, V]; exact rfl) (by kernel_rfl) rfl rfl rfl rfl rfl (fun hg4 => ?a4) ?b4 ?c4
 case a4 =>
  have hq4 := hg4; (try simp only [zB, reduceCtorEq] at hg4); simp only [zE]
  (refine bp rfl fun _ k0 => ?_; simp only [zO, zT, acs, reduceCtorEq, aa, V, ad, ag, af, ae, Mly.av]; (repeat refine an ?_); (try refine .inl ?_); apply k0; clear k0; simp only [zP, V])
  refine bp rfl fun _ k0 => ?_
  refine aK (h := aC (uY m)) rfl rfl (by first | exact rfl | (simp only [ev, zP, aa, V]; exact rfl)) (by simp only [zV, acs, reduceCtorEq, aa, V, ad, ag, af, ae, Mly.av]) ?_
  apply k0; clear k0; simp only [zP, V]
  iterate 5 (refine bp rfl fun _ k0 => ?_; simp only [zO, zT, acs, reduceCtorEq, aa, V, ad, ag, af, ae, Mly.av]; (repeat refine an ?_); (try refine .inl ?_); apply k0; clear k0; simp only [zP, V])
  (refine aj rfl fun _ k0 => ?_; simp only [zO, zT, acs, reduceCtorEq, aa, V, ad, ag, af, ae, Mly.av]; (repeat refine an ?_); (try refine .inl ?_); apply k0; clear k0; simp only [zP, V])
  refine ao ?_
  refine ⟨by simp only [zP, aa, V]; exact rfl, rfl, ?_, rfl⟩; (repeat refine aS rfl ?_); exact bB (by exact rfl) hq4
 case b4 => exact cD
 simp only [bh, aY]
 refine ao ?_
 refine ⟨by kernel_rfl, ?_⟩
 apply k3; clear k3; refine kp [0, 1, 2, 16] ?_
 refine cd (fun hc5 => ?_) (fun hc5 => ?_)
 ·(try simp only [zB, reduceCtorEq] at hc5)
  have hno := Cx (m := m) (by have h9 := hc5; omega)
  refine ah fun _ k6 => ?_
  refine am hP hN rfl ?_
  (refine aj rfl fun _ k0 => ?_; simp only [zO, zT, acs, reduceCtorEq, aa, V, ad, ag, af, ae, Mly.av]; (repeat refine an ?_); (try refine .inl ?_); apply k0; clear k0; simp only [zP, V])
  refine ao ?_
  apply k6; clear k6; refine kp [0, 1, 2, 16] ?_
  refine aE ?_
  refine ⟨nr, _, rfl, ?_⟩; simp only [zF, zP, aa, V, Mly.av]
  refine VLE.of_eq ?_
  first | (rw [hno]; done) | (rw [hno]; rfl) | (rw [hnb, hyes.1, he9]; rfl)
 (try simp only [zB, reduceCtorEq] at hc5)
 have hyes : aL m = 0 ∧ m.reach.length = m.nx.length := by have h9 := hc5; omega
 have hnb := Cq hyes.1 hyes.2
 have he9 : decide ((m.mres.nx.length : Int) = (m.nx.length : Int)) = decide (m.mres.nx.length = m.nx.length) := by rw [decide_eq_decide]; omega
 refine ay ?_
 apply k2; clear k2; refine kp [0, 1, 2, 16] ?_
 refine ah fun _ k7 => ?_
 refine am hP hN rfl ?_
 (refine aj rfl fun _ k0 => ?_; simp only [zO, zT, acs, reduceCtorEq, aa, V, ad, ag, af, ae, Mly.av]; (repeat refine an ?_); (try refine .inl ?_); apply k0; clear k0; simp only [zP, V])
 refine aj rfl fun _ k0 => ?_
 refine aK (h := aC (CF m)) rfl rfl (by first | exact rfl | (simp only [ev, zP, aa, V]; exact rfl)) (by simp only [zV, acs, reduceCtorEq, aa, V, ad, ag, af, ae, Mly.av]) ?_
 apply k0; clear k0; simp only [zP, V]
 iterate 6 (refine aj rfl fun _ k0 => ?_; simp only [zO, zT, acs, reduceCtorEq, aa, V, ad, ag, af, ae, Mly.av]; (repeat refine an ?_); (try refine .inl ?_); apply k0; clear k0; simp only [zP, V])
 refine ao ?_
 apply k7; clear k7; refine kp [0, 1, 2, 3, 4, 16] ?_
 refine ah fun _ k8 => ?_
 refine am hP hN rfl ?_
 iterate 3 (refine aj rfl fun _ k0 => ?_; simp only [zO, zT, acs, reduceCtorEq, aa, V, ad, ag, af, ae, Mly.av]; (repeat refine an ?_); (try refine .inl ?_); apply k0; clear k0; simp only [zP, V])
 refine' aR (want := true) 7 rfl (m := 24) (by simp only [zP, aa, V]; exact rfl) (by kernel_rfl) rfl rfl rfl rfl rfl (fun hg9 => ?a9) ?b9 ?c9
 case a9 =>
  have hq9 := hg9; (try simp only [zB, reduceCtorEq] at hg9); simp only [zE]
  iterate 7 (refine bp rfl fun _ k0 => ?_; simp only [zO, zT, acs, reduceCtorEq, aa, V, ad, ag, af, ae, Mly.av]; (repeat refine an ?_); (try refine .inl ?_); apply k0; clear k0; simp only [zP, V])
  (refine aj rfl fun _ k0 => ?_; simp only [zO, zT, acs, reduceCtorEq, aa, V, ad, ag, af, ae, Mly.av]; (repeat refine an ?_); (try refine .inl ?_); apply k0; clear k0; simp only [zP, V])
  refine ao ?_
  refine ⟨by simp only [zP, aa, V]; exact rfl, rfl, ?_, rfl⟩; (repeat refine aS rfl ?_); exact bB (by exact rfl) hq9
 case b9 => exact cD
 simp only [bh, aY]
 (refine aj rfl fun _ k0 => ?_; simp only [zO, zT, acs, reduceCtorEq, aa, V, ad, ag, af, ae, Mly.av]; (repeat refine an ?_); (try refine .inl ?_); apply k0; clear k0; simp only [zP, V])
 refine ao ?_
 apply k8; clear k8; refine kp [0, 1, 2, 3, 4, 16] ?_
 refine aE ?_
 refine ⟨nr, _, rfl, ?_⟩; simp only [zF, zP, aa, V, Mly.av]
 refine VLE.of_eq ?_
 first | (rw [hno]; done) | (rw [hno]; rfl) | (rw [hnb, hyes.1, he9]; rfl)
theorem si (m : Mly) : cb Try.prog 32 [m.av] (.one (.int .i64 (dK m))) := by
 refine aT Try.func32 rfl (by kernel_rfl) (Nat.le_of_ble_eq_true rfl) rfl fun C hP hN hB => ?_
 replace hN : C.N = 12 := hN
 simp only [bc, V]
 refine ah fun _ k1 => ?_
 refine am hP hN rfl ?_
 iterate 2 (refine aj rfl fun _ k0 => ?_; simp only [zO, zT, acs, reduceCtorEq, aa, V, ad, ag, af, ae, Mly.av]; (repeat refine an ?_); (try refine .inl ?_); apply k0; clear k0; simp only [zP, V])
 refine ao ?_
 apply k1; clear k1; refine kp [0, 1, 2] ?_
 refine ah fun _ k2 => ?_
 refine ah fun _ k3 => ?_
 refine am hP hN rfl ?_
 (refine aj rfl fun _ k0 => ?_; simp only [zO, zT, acs, reduceCtorEq, aa, V, ad, ag, af, ae, Mly.av]; (repeat refine an ?_); (try refine .inl ?_); apply k0; clear k0; simp only [zP, V])
 refine aj rfl fun _ k0 => ?_
 refine aK (h := aC (iu m)) rfl rfl (by first | exact rfl | (simp only [ev, zP, aa, V]; exact rfl)) (by simp only [zV, acs, reduceCtorEq, aa, V, ad, ag, af, ae, Mly.av]) ?_
 apply k0; clear k0; simp only [zP, V]
 (refine aj rfl fun _ k0 => ?_; simp only [zO, zT, acs, reduceCtorEq, aa, V, ad, ag, af, ae, Mly.av]; (repeat refine an ?_); (try refine .inl ?_); apply k0; clear k0; simp only [zP, V])
 refine ao ?_
 apply k3; clear k3; refine kp [0, 1, 2, 3] ?_
 refine ah fun _ k4 => ?_
 refine am hP hN rfl ?_
 iterate 2 (refine aj rfl fun _ k0 => ?_; simp only [zO, zT, acs, reduceCtorEq, aa, V, ad, ag, af, ae, Mly.av]; (repeat refine an ?_); (try refine .inl ?_); apply k0; clear k0; simp only [zP, V])
 refine ao ?_
 apply k4; clear k4; refine kp [0, 1, 2, 3, 7] ?_
 refine cd (fun hc5 => ?_) (fun hc5 => ?_)
 ·(try simp only [zB, reduceCtorEq] at hc5)
  refine ah fun _ k6 => ?_
  refine am hP hN rfl ?_
  iterate 2 (refine aj rfl fun _ k0 => ?_; simp only [zO, zT, acs, reduceCtorEq, aa, V, ad, ag, af, ae, Mly.av]; (repeat refine an ?_); (try refine .inl ?_); apply k0; clear k0; simp only [zP, V])
  refine ao ?_
  apply k6; clear k6; refine kp [0, 1, 2, 3, 7] ?_
  refine aE ?_
  refine ⟨nr, _, rfl, ?_⟩; simp only [zF, zP, aa, V, Mly.av]
  refine VLE.of_eq ?_
  refine congrArg (fun n => AV.one (AC.int IntKind.i64 n)) ?_
  unfold dK
  symm
  first
  | (rw [if_pos (by omega)]; done)
  | (rw [if_neg (by omega), if_neg (by simp_all)]; done)
  | (rw [if_neg (by omega), if_pos (by simp_all)]; done)
 (try simp only [zB, reduceCtorEq] at hc5)
 refine ay ?_
 apply k2; clear k2; refine kp [0, 1, 2, 3, 7] ?_
 refine ah fun _ k7 => ?_
 refine ah fun _ k8 => ?_
 refine am hP hN rfl ?_
 (refine aj rfl fun _ k0 => ?_; simp only [zO, zT, acs, reduceCtorEq, aa, V, ad, ag, af, ae, Mly.av]; (repeat refine an ?_); (try refine .inl ?_); apply k0; clear k0; simp only [zP, V])
 refine aj rfl fun _ k0 => ?_
 refine aK (h := aC (yw m)) rfl rfl (by first | exact rfl | (simp only [ev, zP, aa, V]; exact rfl)) (by simp only [zV, acs, reduceCtorEq, aa, V, ad, ag, af, ae, Mly.av]) ?_
 apply k0; clear k0; simp only [zP, V]
 (refine aj rfl fun _ k0 => ?_; simp only [zO, zT, acs, reduceCtorEq, aa, V, ad, ag, af, ae, Mly.av]; (repeat refine an ?_); (try refine .inl ?_); apply k0; clear k0; simp only [zP, V])
 refine ao ?_
 apply k8; clear k8; refine kp [0, 1, 2, 3, 7, 11] ?_
 refine cd (fun hc9 => ?_) (fun hc9 => ?_)
 ·(try simp only [zB, reduceCtorEq] at hc9)
  refine ah fun _ k10 => ?_
  refine am hP hN rfl ?_
  (refine aj rfl fun _ k0 => ?_; simp only [zO, zT, acs, reduceCtorEq, aa, V, ad, ag, af, ae, Mly.av]; (repeat refine an ?_); (try refine .inl ?_); apply k0; clear k0; simp only [zP, V])
  refine ao ?_
  apply k10; clear k10; refine kp [0, 1, 2, 3, 7, 11] ?_
  refine aE ?_
  refine ⟨nr, _, rfl, ?_⟩; simp only [zF, zP, aa, V, Mly.av]
  refine VLE.of_eq ?_
  refine congrArg (fun n => AV.one (AC.int IntKind.i64 n)) ?_
  unfold dK
  symm
  first
  | (rw [if_pos (by omega)]; done)
  | (rw [if_neg (by omega), if_neg (by simp_all)]; done)
  | (rw [if_neg (by omega), if_pos (by simp_all)]; done)
 (try simp only [zB, reduceCtorEq] at hc9)
 refine ay ?_
 apply k7; clear k7; refine kp [0, 1, 2, 3, 7, 11] ?_
 refine ah fun _ k11 => ?_
 refine am hP hN rfl ?_
 (refine aj rfl fun _ k0 => ?_; simp only [zO, zT, acs, reduceCtorEq, aa, V, ad, ag, af, ae, Mly.av]; (repeat refine an ?_); (try refine .inl ?_); apply k0; clear k0; simp only [zP, V])
 refine ao ?_
 apply k11; clear k11; refine kp [0, 1, 2, 3, 7, 11] ?_
 refine aE ?_
 refine ⟨nr, _, rfl, ?_⟩; simp only [zF, zP, aa, V, Mly.av]
 refine VLE.of_eq ?_
 refine congrArg (fun n => AV.one (AC.int IntKind.i64 n)) ?_
 unfold dK
 symm
 first
 | (rw [if_pos (by omega)]; done)
 | (rw [if_neg (by omega), if_neg (by simp_all)]; done)
 | (rw [if_neg (by omega), if_pos (by simp_all)]; done)
section
open Go.RowKit Go.Shelf
attribute [local go_sem] Oper.semAt_some
structure NV12 where
  sa : Option Addr
  sn : Nat
  sc : Nat
  i : Int
  ka : Option Addr
  kn : Nat
  kc : Nat
def NV12.v (x : NV12) : Value := .agg #[.slice x.sa x.sn x.sc, .int .i64 x.i, .slice x.ka x.kn x.kc]
def fR (f : Nat → NV12) (k : Nat) : List NV12 := ((List.range k).map f).filter fun x => decide (x.i = -1)
theorem B2 {f : Nat → NV12} {k : Nat} (h : (f k).i = -1) : fR f (k + 1) = fR f k ++ [f k] := by
  unfold fR; rw [List.range_succ, List.map_append, List.filter_append]; simp [h]
theorem BA {f : Nat → NV12} {k : Nat} (h : ¬ (f k).i = -1) : fR f (k + 1) = fR f k := by
  unfold fR; rw [List.range_succ, List.map_append, List.filter_append]; simp [h]
theorem yr {f : Nat → NV12} {k : Nat} : (fR f k).length ≤ k := by
  unfold fR; exact Nat.le_trans (List.length_filter_le _ _) (by simp)
set_option maxHeartbeats 2000000 in
theorem AD (F : Fence) (n : Nat) (h61 : F.fn 61) (hro : F.round = none) (hn : 1 ≤ n) (l Bs n₀ b off len cap : Nat) (f : Nat → NV12) (hln : len ≤ 1000000000) (hb : b < n₀) (J Jx : List NV12 → World → Prop)
    (hY : ∀ pre x W, J pre W → pre.length < len → YieldAt F (n - 1) Try.prog l #[NV12.v x] W fun e W' =>
      (e = .returned (.bool true) ∧ J (pre ++ [x]) W' ∧ Below n₀ W W') ∨ (e = .returned (.bool false) ∧ Jx (pre ++ [x]) W'))
    (W : World) (hn₀ : n₀ ≤ W.heap.size) (hJ : AbidesFrom W.heap.size J)
    (hBs : W.cell? ⟨Bs, 0, none⟩ = some (.slice (some ⟨b, off, none⟩) len cap)) (hc0 : ∀ j, j < len → W.cell? ⟨b, off + j * 3, none⟩ = some (.slice (f j).sa (f j).sn (f j).sc)) (hc1 : ∀ j, j < len → W.cell? ⟨b, off + j * 3 + 1, none⟩ = some (.int .i64 (f j).i)) (hc2 : ∀ j, j < len → W.cell? ⟨b, off + j * 3 + 2, none⟩ = some (.slice (f j).ka (f j).kn (f j).kc)) (h0 : J [] W) :
    CallsIn F n Try.prog 61 #[.func (.yield l) #[] #[], .pointer (some ⟨Bs, 0, none⟩)] W fun e W' => (∃ v, e = .returned v) ∧
      ((∃ ys, ys = fR f len ∧ J ys W') ∨ (∃ pre, (∃ k, k ≤ len ∧ pre = fR f k) ∧ Jx pre W')) := by
  refine callsIn_of_wp Try.func61 rfl h61 ?_ hro
  simp only [Try.ntmps61, List.size_toArray, ax, aI, V, ae, Array.replicate_succ, Array.replicate_zero, List.push_toArray, List.append_toArray, b6, aN]
  gi_wp2
  gi_loopw [8] (fun i wr => ∃ k : Nat, k ≤ len ∧ i = .int .i64 k ∧ J (fR f k) wr ∧ Below n₀ W wr)
    (fun i _ => len - (intOf i).toNat)
  case atStart => exact ⟨0, Nat.zero_le _, rfl, h0, Below.refl _ _⟩
  case round =>
    obtain ⟨k, hk, rfl, hJs, hnx⟩ := hrel
    by_cases hlt : k < len
    · have q0 := (hnx.cell (p := ⟨b, off + k * 3, none⟩) hb).trans (hc0 k hlt)
      have q1 := (hnx.cell (p := ⟨b, off + k * 3 + 1, none⟩) hb).trans (hc1 k hlt)
      have q2 := (hnx.cell (p := ⟨b, off + k * 3 + 2, none⟩) hb).trans (hc2 k hlt)
      rcases hf : f k with ⟨sa, sn, sc, i, ka, kn, kc⟩
      rw [hf] at q0 q1 q2
      dsimp only at q0 q1 q2
      by_cases hi : i = -1
      · subst hi
        have hJ1 : J (fR f k) (wr.alloc (.cells #[.slice sa sn sc, .int .i64 (-1), .slice ka kn kc] 52)) := hJ _ wr _ none hJs (World.grownBy_alloc wr _ none) (fun r e => by cases e)
        have hll := yr (f := f) (k := k)
        obtain ⟨fn, tmps, assign, body, hy, hR⟩ := hY _ (f k) _ hJ1 (by omega)
        rw [hf] at hy hR
        dsimp only [NV12.v] at hy
        gi_wp2
        refine hR.mono ?_
        have hlv : fR f (k + 1) = fR f k ++ [⟨sa, sn, sc, -1, ka, kn, kc⟩] := by rw [B2 (by rw [hf]), hf]
        rintro e W3 (⟨rfl, hJ3, hk3⟩ | ⟨rfl, hJx3⟩)
        · gi_wp2
          go_roundw
          case rel => exact ⟨k + 1, by omega, by simp, by rw [hlv]; exact hJ3, hnx.trans (((Below.refl n₀ wr).alloc (Nat.le_trans hn₀ hnx.size) _).trans hk3)⟩
          case measure => simp [intOf]; omega
        · gi_wp2
          refine bodyPost_ret (results_none rfl _ _ _) rfl ?_
          exact ⟨⟨_, rfl⟩, .inr ⟨_, ⟨k + 1, by omega, hlv.symm⟩, hJx3⟩⟩
      · have hi2 : (i == -1) = false := by simp [hi]
        gi_wp2
        refine ⟨fun _ h => (by cases h), ?_⟩
        gi_wp2
        go_roundw
        case rel => exact ⟨k + 1, by omega, by simp, by rw [BA (by rw [hf]; exact hi)]; exact hJ _ wr _ none hJs (World.grownBy_alloc wr _ none) (fun r e => by cases e), hnx.trans ((Below.refl n₀ wr).alloc (Nat.le_trans hn₀ hnx.size) _)⟩
        case measure => simp [intOf]; omega
    · obtain rfl : k = len := by omega
      gi_wp2
      go_end0
      exact ⟨⟨_, rfl⟩, .inl ⟨_, rfl, hJs⟩⟩

set_option maxHeartbeats 1000000 in
theorem yi (F : Fence) (n : Nat) (h61 : F.fn 61) (hro : F.round = none) (l Bs : Nat) (A : Option Addr) (cap : Nat) (J : List NV12 → World → Prop) (W : World) (hBs : W.cell? ⟨Bs, 0, none⟩ = some (.slice A 0 cap)) (h0 : J [] W) :
    CallsIn F n Try.prog 61 #[.func (.yield l) #[] #[], .pointer (some ⟨Bs, 0, none⟩)] W fun e W' => (∃ v, e = .returned v) ∧ J [] W' := by
  refine callsIn_of_wp Try.func61 rfl h61 ?_ hro
  simp only [Try.ntmps61, List.size_toArray, ax, aI, V, ae, Array.replicate_succ, Array.replicate_zero, List.push_toArray, List.append_toArray, b6, aN]
  gi_wp2
  gi_loopw [8] (fun i wr => i = .int .i64 0 ∧ J [] wr) (fun _ _ => 0)
  case atStart => exact ⟨rfl, h0⟩
  case round =>
    obtain ⟨rfl, hJs⟩ := hrel
    gi_wp2
    go_end0
    exact ⟨⟨_, rfl⟩, hJs⟩

set_option maxHeartbeats 1000000 in
theorem zY (F : Fence) (n : Nat) (h39 : F.fn 39) (hro : F.round = none) (A : Option Addr) (len cap : Nat) (w : World) :
    CallsIn F n Try.prog 39 #[.agg #[.slice A len cap]] w fun e w' => e = .returned (.func (.func 61) #[] #[.pointer (some ⟨w.heap.size, 0, none⟩)]) ∧ w' = w.alloc (.cells #[.slice A len cap] 29) := by
  refine callsIn_of_wp Try.func39 rfl h39 ?_ hro
  simp only [Try.ntmps39, List.size_toArray, ax, aI, V, ae, Array.replicate_succ, Array.replicate_zero, List.push_toArray, List.append_toArray, b6, aN]
  gi_wp2
  go_ret
  exact ⟨rfl, rfl⟩

def pp (n₀ : Nat) (W : World) (A : Option Addr) (len : Nat) (f : Nat → NV12) : Prop :=
  0 < len → ∃ b off, A = some ⟨b, off, none⟩ ∧ b < n₀ ∧ (∀ j, j < len → W.cell? ⟨b, off + j * 3, none⟩ = some (.slice (f j).sa (f j).sn (f j).sc)) ∧ (∀ j, j < len → W.cell? ⟨b, off + j * 3 + 1, none⟩ = some (.int .i64 (f j).i)) ∧
    (∀ j, j < len → W.cell? ⟨b, off + j * 3 + 2, none⟩ = some (.slice (f j).ka (f j).kn (f j).kc))

theorem wn (F : Fence) (n : Nat) (h61 : F.fn 61) (hro : F.round = none) (hn : 1 ≤ n) (Bs n₀ : Nat) (A : Option Addr) (len cap : Nat) (f : Nat → NV12) (hln : len ≤ 1000000000) (w : World) (hBs : Bs < w.heap.size) (hn₀ : n₀ ≤ w.heap.size)
    (hc : w.cell? ⟨Bs, 0, none⟩ = some (.slice A len cap)) (hI : pp n₀ w A len f) :
    SeqStopsK F n Try.prog 61 #[.pointer (some ⟨Bs, 0, none⟩)] (fun x : NV12 => #[NV12.v x]) (Below n₀) (fun ys => ys = fR f len) (fun pre => ∃ k, k ≤ len ∧ pre = fR f k) len w := fun l J Jx W hW hJ _ hY h0 => by
  have hc' := (hW.cell (p := ⟨Bs, 0, none⟩) hBs).trans hc
  rcases Nat.eq_zero_or_pos len with e | e
  · subst e
    exact (yi F n h61 hro l Bs A cap J W hc' h0).mono fun e W' ⟨he, hj⟩ => ⟨he, .inl ⟨_, rfl, hj⟩⟩
  · obtain ⟨b, off, rfl, hb, c0, c1, c2⟩ := hI e
    have hbw : b < w.heap.size := by omega
    exact AD F n h61 hro hn l Bs n₀ b off len cap f hln hb J Jx hY W (Nat.le_trans hn₀ hW.size) hJ hc'
      (fun j hj => (hW.cell (p := ⟨b, off + j * 3, none⟩) hbw).trans (c0 j hj)) (fun j hj => (hW.cell (p := ⟨b, off + j * 3 + 1, none⟩) hbw).trans (c1 j hj)) (fun j hj => (hW.cell (p := ⟨b, off + j * 3 + 2, none⟩) hbw).trans (c2 j hj)) h0

theorem tv {n₀ : Nat} {W W' : World} (h : Below n₀ W W') {A : Option Addr} {len : Nat} {f : Nat → NV12} (hd : pp n₀ W A len f) : pp n₀ W' A len f := fun e => by
  obtain ⟨b, off, ea, hb, c0, c1, c2⟩ := hd e
  exact ⟨b, off, ea, hb, fun j hj => (h.cell (p := ⟨b, off + j * 3, none⟩) hb).trans (c0 j hj), fun j hj => (h.cell (p := ⟨b, off + j * 3 + 1, none⟩) hb).trans (c1 j hj), fun j hj => (h.cell (p := ⟨b, off + j * 3 + 2, none⟩) hb).trans (c2 j hj)⟩
theorem yA {f : Nat → NV12} {k n : Nat} (h : k ≤ n) {x : NV12} (hx : x ∈ fR f k) : x ∈ fR f n := by
  unfold fR at hx ⊢
  obtain ⟨h1, h2⟩ := List.mem_filter.1 hx
  obtain ⟨j, hj, e⟩ := List.mem_map.1 h1
  have := List.mem_range.1 hj
  exact List.mem_filter.2 ⟨List.mem_map.2 ⟨j, List.mem_range.2 (by omega), e⟩, h2⟩

def Al (W : World) (B : Nat) (x : NV12) : Prop := W.heap[B]? = some (.cells #[.slice x.sa x.sn x.sc, .int .i64 x.i, .slice x.ka x.kn x.kc] 52 (0, 0))
theorem ws {β : Type} (B : Nat) (f : β → NV12) : Own (fun s W => Al W B (f s)) := fun s X Y row hs hg hrow =>
  (hg.block B (Array.getElem?_eq_some_iff.1 hs).1 (fun e' => by obtain ⟨o, ho, hc⟩ := hrow B e'.symm; rw [show X.heap[B]? = _ from hs] at ho; cases ho; cases hc)).trans hs

set_option maxHeartbeats 4000000 in
theorem AE (F : Fence) (n : Nat) (h18 : F.fn 18) (h39 : F.fn 39) (h61 : F.fn 61) (hro : F.round = none) (hn : 6 ≤ n) (A : Option Addr) (len cap : Nat) (f : Nat → NV12) (hln : len ≤ 1000000000) (w : World) (hI : pp w.heap.size w A len f) :
    CallsIn F n Try.prog 18 #[.agg #[.slice A len cap]] w fun e W' => (∃ r, e = .returned (.bool r) ∧ (r = true ↔ (∀ x ∈ fR f len, x.sn = 1) ∧ 0 < len)) ∧ Below w.heap.size w W' := by
  have h1 : 1 ≤ n := by omega
  refine callsIn_of_wp_marks Try.func18 rfl h18 ?_ hro
  simp only [Try.ntmps18, List.size_toArray, ax, aI, V, ae, Array.replicate_succ, Array.replicate_zero, List.push_toArray, List.append_toArray, b6, aN]
  gi_wp2_with (gi_at_call 39; refine (zY F (n - 1) h39 hro _ _ _ _).mono ?_; rintro e w' ⟨rfl, rfl⟩)
  have bT := ((Boxed.new w 29 (.slice A len cap)).alloc (.cells #[.bool false] 4)).alloc (.cells #[.slice A len cap] 29)
  have bR := (Boxed.new (w.alloc (.cells #[.slice A len cap] 29)) 4 (.bool false)).alloc (.cells #[.slice A len cap] 29)
  have bA := Boxed.new ((w.alloc (.cells #[.slice A len cap] 29)).alloc (.cells #[.bool false] 4)) 29 (.slice A len cap)
  simp only [World.size_alloc] at bR bA
  have hB0 : Below w.heap.size w (((w.alloc (.cells #[.slice A len cap] 29)).alloc (.cells #[.bool false] 4)).alloc (.cells #[.slice A len cap] 29)) := (((Below.refl _ w).alloc (Nat.le_refl _) _).alloc (by simp) _).alloc (by simp; omega) _
  have hsz : (((w.alloc (.cells #[.slice A len cap] 29)).alloc (.cells #[.bool false] 4)).alloc (.cells #[.slice A len cap] 29)).heap.size = w.heap.size + 3 := by simp
  obtain ⟨W0, hW0⟩ : ∃ W0, (((w.alloc (.cells #[.slice A len cap] 29)).alloc (.cells #[.bool false] 4)).alloc (.cells #[.slice A len cap] 29)) = W0 := ⟨_, rfl⟩
  rw [hW0] at bT bR bA hB0 hsz ⊢
  clear hW0
  refine wpIn_rangeFunc_ownH hro h1 (gf := 61) (lb := #[.pointer (some ⟨w.heap.size + 1 + 1, 0, none⟩)]) rfl h61 (enters_of Try.func61 (by kernel_rfl) rfl)
    (wn F (n - 1) h61 hro (by omega) (w.heap.size + 1 + 1) w.heap.size A len cap f hln W0 (by omega) (by omega) bA.cell (tv hB0 hI)) belowK_t (belowK_b (by omega)) (Below.refl _ _) (fun _ => rfl)
    (fun pre W => (Boxed W (w.heap.size + 1) 4 (.bool false) ∧ Boxed W w.heap.size 29 (.slice A len cap)) ∧ (Below w.heap.size w W ∧ ∀ x ∈ pre, x.sn = 1))
    (fun c pre W => (Boxed W (w.heap.size + 1) 4 (.bool false) ∧ Boxed W w.heap.size 29 (.slice A len cap)) ∧ (Below w.heap.size w W ∧ (c = .ret ∧ ∃ x ∈ pre, ¬ x.sn = 1)))
    (OwnFrom.and (OwnFrom.and (Own.from (boxed_own _ _ _) _) (Own.from (boxed_own _ _ _) _)) (OwnFrom.and (ownFrom_below (Nat.le_refl _) (by omega)) (fun _ _ _ _ hs _ _ => hs)))
    (fun c => OwnFrom.and (OwnFrom.and (Own.from (boxed_own _ _ _) _) (Own.from (boxed_own _ _ _) _)) (OwnFrom.and (ownFrom_below (Nat.le_refl _) (by omega)) (fun _ _ _ _ hs _ _ => hs)))
    ⟨⟨bR, bT⟩, hB0, fun x hx => by cases hx⟩
    (fun x a' W => ∃ Bx, w.heap.size + 1 < Bx ∧ Al W Bx x ∧ a' = { tmps := #[.agg #[.slice A len cap], .pointer (some ⟨w.heap.size, 0, none⟩), .pointer (some ⟨w.heap.size + 1, 0, none⟩), .pointer (some ⟨Bx, 0, none⟩), .agg #[.slice A len cap], .func (.func 61) #[] #[.pointer (some ⟨w.heap.size + 1 + 1, 0, none⟩)], x.v, undef, undef, undef, undef, undef, undef, undef, undef], defers := [] })
    (fun x a' _ X Y row hs hg hr => by obtain ⟨Bx, h1, h2, h3⟩ := hs; exact ⟨Bx, h1, ws Bx (fun (_ : Unit) => x) () X Y row h2 hg (fun r e => (hr r e).2), h3⟩)
    ?assign ?body ?done ?stop
  case assign =>
    rintro l pre ⟨sa, sn, sc, i, ka, kn, kc⟩ W K ⟨⟨bS1, bB1⟩, hB1, hp⟩ hK
    dsimp only [NV12.v]
    gi_wp2
    exact hK _ _ ((KeepsOthers.alloc _ _).from _) ((Below.refl _ W).alloc hB1.size _) ⟨⟨bS1.alloc _, bB1.alloc _⟩, hB1.alloc hB1.size _, hp⟩ ⟨W.heap.size, bS1.lt, World.alloc_heap_new W _, rfl⟩
  case body =>
    rintro l pre ⟨sa, sn, sc, i, ka, kn, kc⟩ a' W hl ⟨r, hr⟩ ⟨⟨bS1, bB1⟩, hB1, hp⟩ ⟨Bx, hBx, bX, rfl⟩ hlt
    dsimp only [NV12.v]
    have cS := bS1.cell
    have fS := bS1.frozen
    have cX : W.cell? ⟨Bx, 0, none⟩ = some (.slice sa sn sc) := by simp [World.cell?, show W.heap[Bx]? = _ from bX]
    gi_wp2
    · rename_i hsn
      have hsn : ¬ sn = 1 := fun e => by subst e; simp at hsn
      exact ⟨(KeepsOthers.setCell _ _ _).from _, ⟨bS1.set _, bB1.other (by omega) _⟩, hB1.setCell (p := ⟨w.heap.size + 1, 0, none⟩) (by simp) _, rfl, _, List.mem_append_right _ (List.mem_singleton.2 rfl), hsn⟩
    · rename_i hsn
      have hsn : sn = 1 := by simp at hsn; omega
      refine ⟨KeepsFrom.refl _ _, Below.refl _ _, ⟨bS1, bB1⟩, hB1, fun x hx => ?_⟩
      rcases List.mem_append.1 hx with h | h
      · exact hp x h
      · rw [List.mem_singleton] at h; rw [h]; exact hsn
  case done =>
    rintro D zs W hD rfl ⟨⟨bS1, bB1⟩, hB1, hp⟩ hK
    have cS := bS1.cell
    have fS := bS1.frozen
    have cB := bB1.cell
    gi_wp2
    have k2 : (W.setCell ⟨w.heap.size + 1, 0, none⟩ (.bool (decide (0 < len)))).heap[D]? = some (.deferred (some [])) := (KeepsOthers.setCell W ⟨w.heap.size + 1, 0, none⟩ _).same D _ hK rfl
    have hB2 := hB1.setCell (p := ⟨w.heap.size + 1, 0, none⟩) (by simp) (.bool (decide (0 < len)))
    have cS2 := (bS1.set (.bool (decide (0 < len)))).cell
    have cS3 := cell_kept cS2 (grownBy_putObj' _ D (.deferred none)) (fun r e => by cases e; exact ⟨_, k2, rfl⟩)
    refine ⟨by simp, .inl ⟨_, _, rfl, run_takeDeferred k2, ?_⟩⟩
    refine ⟨.bool (decide (0 < len)), ?_, ⟨decide (0 < len), rfl, ?_⟩, hB2.trans (belowK_b (w := w) (Nat.le_refl _) _ D _ _ (by omega) k2 rfl rfl)⟩
    · simp only [results, show Try.f18.results = #[.cell 2 4] by kernel_rfl]
      simp [loadVar, asAddr, go_sem, cS3]
    · rw [decide_eq_true_eq]; exact ⟨fun h => ⟨hp, h⟩, fun h => h.2⟩
  case stop =>
    rintro D c pre W hD ⟨k, hk, rfl⟩ ⟨⟨bS1, bB1⟩, hB1, rfl, x, hx, hx1⟩ hK
    have cS := bS1.cell
    gi_wp2
    have cS3 := cell_kept cS (grownBy_putObj' _ D (.deferred none)) (fun r e => by cases e; exact ⟨_, hK, rfl⟩)
    refine ⟨by simp, .inl ⟨_, _, rfl, run_takeDeferred hK, ?_⟩⟩
    refine ⟨.bool false, ?_, ⟨false, rfl, ?_⟩, hB1.trans (belowK_b (w := w) (Nat.le_refl _) _ D _ _ (by omega) hK rfl rfl)⟩
    · simp only [results, show Try.f18.results = #[.cell 2 4] by kernel_rfl]
      simp [loadVar, asAddr, go_sem, cS3]
    · refine ⟨fun h => (by cases h), fun h => absurd (h.1 x (yA hk hx)) hx1⟩

theorem yL {T : List bj} {f : Nat → NV12} (h : ∀ i, i < T.length → (f i).sn = (T.getD i nd0).1.length ∧ (f i).i = (T.getD i nd0).2.1) : ((∀ x ∈ fR f T.length, x.sn = 1) ∧ 0 < T.length) ↔ kA T = true := by
  unfold kA
  rw [Bool.and_eq_true, decide_eq_true_eq, List.all_eq_true]
  refine and_congr_left fun _ => ⟨fun h1 x hx => ?_, fun h1 x hx => ?_⟩
  · obtain ⟨i, hi, rfl⟩ := List.getElem_of_mem hx
    obtain ⟨a, b⟩ := h i hi
    have e : T.getD i nd0 = T[i] := by simp [List.getD, hi]
    rw [e] at a b
    unfold cmL
    by_cases e1 : T[i].2.1 = -1
    · have := h1 (f i) (List.mem_filter.2 ⟨List.mem_map.2 ⟨i, List.mem_range.2 hi, rfl⟩, decide_eq_true (by rw [b]; exact e1)⟩)
      rw [decide_eq_true (show T[i].1.length = 1 by omega)]; simp
    · rw [decide_eq_false e1]; rfl
  · obtain ⟨h2, h3⟩ := List.mem_filter.1 hx
    obtain ⟨i, hi, rfl⟩ := List.mem_map.1 h2
    have hi := List.mem_range.1 hi
    obtain ⟨a, b⟩ := h i hi
    have h4 := h1 (T.getD i nd0) (by rw [List.getD, List.getElem?_eq_getElem hi]; exact List.getElem_mem hi)
    unfold cmL at h4
    rw [decide_eq_true (show (T.getD i nd0).2.1 = -1 by rw [← b]; exact of_decide_eq_true h3)] at h4
    rw [a]
    simpa using h4
theorem xr (T : List bj) (hT : T.length ≤ 1000000) : cb Try.prog 18 [.agg [.list ndT T]] (.one (.bool (kA T))) := by
  refine ⟨⟨_, Try.func18, by kernel_rfl, by kernel_rfl⟩, fun C L σ w vs hP hI ha => ?_⟩
  match vs, ha with
  | [v], ⟨⟨us, hv, hus⟩, _⟩ =>
  match us, hus with
  | [u], ⟨⟨_, hd⟩, _⟩ =>
  subst hv
  have hd : Dat (avd C L σ) w (.list ndT) T [u] := hd
  simp only [Dat] at hd
  obtain ⟨A, c, e, _, _, hr⟩ := hd
  obtain rfl : u = .slice A T.length c := by simpa using e
  have hx : ∀ i, ∃ x : NV12, i < T.length → (x.sn = (T.getD i nd0).1.length ∧ x.i = (T.getD i nd0).2.1) ∧ ∀ b o, A = some ⟨b, o, none⟩ → w.cell? ⟨b, o + i * 3, none⟩ = some (.slice x.sa x.sn x.sc) ∧ w.cell? ⟨b, o + i * 3 + 1, none⟩ = some (.int .i64 x.i) ∧ w.cell? ⟨b, o + i * 3 + 2, none⟩ = some (.slice x.ka x.kn x.kc) := fun i => by
    by_cases hi : i < T.length
    · obtain ⟨b, o, eA, _, _, hc⟩ := hr (by omega)
      obtain ⟨cs, hl, h1, h2⟩ := hc i hi
      have e2 : (List.getD T i ndT.dflt) = T.getD i nd0 := rfl
      rw [e2] at h2
      rcases hq : T.getD i nd0 with ⟨st, inp, ks, un⟩
      rw [hq] at h2
      simp only [ndT, Dat] at h2
      obtain ⟨c1, c2, rfl, ⟨A1, k1, rfl, _⟩, c3, c4, rfl, rfl, c5, c6, rfl, ⟨A2, k2, rfl, _⟩, rfl⟩ := h2
      refine ⟨⟨A1, st.length, k1, inp, A2, ks.length, k2⟩, fun _ => ⟨⟨rfl, rfl⟩, fun b' o' e' => ?_⟩⟩
      rw [eA] at e'
      cases e'
      exact ⟨h1 0 (by decide), h1 1 (by decide), h1 2 (by decide)⟩
    · exact ⟨⟨none, 0, 0, 0, none, 0, 0⟩, fun h => absurd h hi⟩
  obtain ⟨f, hf⟩ := Classical.axiomOfChoice hx
  have hn : pp w.heap.size w A T.length f := fun h0 => by
    obtain ⟨b, o, eA, _, hlt, _⟩ := hr h0
    exact ⟨b, o, eA, hlt, fun j hj => ((hf j hj).2 b o eA).1, fun j hj => ((hf j hj).2 b o eA).2.1, fun j hj => ((hf j hj).2 b o eA).2.2⟩
  refine (callsIn_wide.1 (AE Fence.wide 6 trivial trivial trivial rfl (by omega) A T.length c f (by omega) w hn)).mono ?_
  rintro e w' ⟨⟨r, h1, h2⟩, h3⟩
  refine ⟨.bool r, h1, ⟨h3.size, h3.os, h3.tape, h3.output, h3.block⟩, rfl, ?_⟩
  have h4 := h2.trans (yL fun i hi => (hf i hi).1)
  show Value.bool r = .bool (kA T)
  cases r <;> cases hq : kA T <;> simp_all
end
theorem yC  : kw Try.prog 51 [.one .emp] (.int .i64) 3 (([] : List Int)) := by
 refine ij Try.func51 rfl (by kernel_rfl) (Nat.le_of_ble_eq_true rfl) rfl fun C hP hN hB => ?_
 replace hN : C.N = 8 := hN
 simp only [bc, V]
 refine ah fun _ k1 => ?_
 refine am hP hN rfl ?_
 (refine aj rfl fun _ k0 => ?_; simp only [zO, zT, acs, reduceCtorEq, aa, V, ad, ag, af, ae]; (repeat refine an ?_); (try refine .inl ?_); apply k0; clear k0; simp only [zP, V])
 refine ao ?_
 apply k1; clear k1; refine kp [0, 2] ?_
 refine ah fun _ k2 => ?_
 refine ah fun _ k3 => ?_
 refine am hP hN rfl ?_
 iterate 2 (refine aj rfl fun _ k0 => ?_; simp only [zO, zT, acs, reduceCtorEq, aa, V, ad, ag, af, ae]; (repeat refine an ?_); (try refine .inl ?_); apply k0; clear k0; simp only [zP, V])
 refine ao ?_
 apply k3; clear k3; refine kp [0, 2, 4] ?_
 refine cd (fun hc4 => ?_) (fun hc4 => ?_)
 · exfalso; (try simp only [zB, reduceCtorEq] at hc4); all_goals (first | (cases hc4; done) | omega | (simp at hc4; done) | (simp_all; done))
 (try simp only [zB, reduceCtorEq] at hc4)
 refine ay ?_
 apply k2; clear k2; refine kp [0, 2, 4] ?_
 refine ah fun _ k5 => ?_
 refine am hP hN rfl ?_
 (refine aj rfl fun _ k0 => ?_; simp only [zO, zT, acs, reduceCtorEq, aa, V, ad, ag, af, ae]; (repeat refine an ?_); refine Or.inr (Or.inl (k0 _ ?_)); clear k0; simp only [zP, V])
 iterate 3 (refine aj rfl fun _ k0 => ?_; simp only [zO, zT, acs, reduceCtorEq, aa, V, ad, ag, af, ae]; (repeat refine an ?_); (try refine .inl ?_); apply k0; clear k0; simp only [zP, V])
 refine ao ?_
 apply k5; clear k5; refine kp [0, 2, 4] ?_
 refine aE ?_
 refine ⟨by first | exact .inl rfl | exact .inr rfl, _, rfl, _, _, rfl, ?_⟩
 rfl
theorem sY  : kw Try.prog 51 [.one .nils] (.int .i64) 3 (([] : List Int)) := by
 refine ij Try.func51 rfl (by kernel_rfl) (Nat.le_of_ble_eq_true rfl) rfl fun C hP hN hB => ?_
 replace hN : C.N = 8 := hN
 simp only [bc, V]
 refine ah fun _ k1 => ?_
 refine am hP hN rfl ?_
 (refine aj rfl fun _ k0 => ?_; simp only [zO, zT, acs, reduceCtorEq, aa, V, ad, ag, af, ae]; (repeat refine an ?_); (try refine .inl ?_); apply k0; clear k0; simp only [zP, V])
 refine ao ?_
 apply k1; clear k1; refine kp [0, 2] ?_
 refine ah fun _ k2 => ?_
 refine ah fun _ k3 => ?_
 refine am hP hN rfl ?_
 iterate 2 (refine aj rfl fun _ k0 => ?_; simp only [zO, zT, acs, reduceCtorEq, aa, V, ad, ag, af, ae]; (repeat refine an ?_); (try refine .inl ?_); apply k0; clear k0; simp only [zP, V])
 refine ao ?_
 apply k3; clear k3; refine kp [0, 2, 4] ?_
 refine cd (fun hc4 => ?_) (fun hc4 => ?_)
 ·(try simp only [zB, reduceCtorEq] at hc4)
  refine ah fun _ k5 => ?_
  refine am hP hN rfl ?_
  (refine aj rfl fun _ k0 => ?_; simp only [zO, zT, acs, reduceCtorEq, aa, V, ad, ag, af, ae]; (repeat refine an ?_); (try refine .inl ?_); apply k0; clear k0; simp only [zP, V])
  refine ao ?_
  apply k5; clear k5; refine kp [0, 2, 4] ?_
  refine fP 2 (.int .i64) 3 (by decide) rfl ?_; simp only [ax, aI, aN, b6, Nat.zero_add, V]
  refine aE ?_
  refine ⟨by first | exact .inl rfl | exact .inr rfl, _, rfl, _, _, rfl, ?_⟩
  rfl
 · exfalso; (try simp only [zB, reduceCtorEq] at hc4); all_goals (first | (cases hc4; done) | omega | (simp at hc4; done) | (simp_all; done))
theorem nI (xs : List Int) (h0 : 0 < xs.length) (h1 : xs.length ≤ 10000000000000) : kw Try.prog 51 [.one (.list (.int .i64) xs)] (.int .i64) 3 (xs) := by
 refine ij Try.func51 rfl (by kernel_rfl) (Nat.le_of_ble_eq_true rfl) rfl fun C hP hN hB => ?_
 replace hN : C.N = 8 := hN
 simp only [bc, V]
 refine ah fun _ k1 => ?_
 refine am hP hN rfl ?_
 (refine aj rfl fun _ k0 => ?_; simp only [zO, zT, acs, reduceCtorEq, aa, V, ad, ag, af, ae]; (repeat refine an ?_); (try refine .inl ?_); apply k0; clear k0; simp only [zP, V])
 refine ao ?_
 apply k1; clear k1; refine kp [0, 2] ?_
 refine ah fun _ k2 => ?_
 refine ah fun _ k3 => ?_
 refine am hP hN rfl ?_
 iterate 2 (refine aj rfl fun _ k0 => ?_; simp only [zO, zT, acs, reduceCtorEq, aa, V, ad, ag, af, ae]; (repeat refine an ?_); (try refine .inl ?_); apply k0; clear k0; simp only [zP, V])
 refine ao ?_
 apply k3; clear k3; refine kp [0, 2, 4] ?_
 refine cd (fun hc4 => ?_) (fun hc4 => ?_)
 · exfalso; (try simp only [zB, reduceCtorEq] at hc4); all_goals (first | (cases hc4; done) | omega | (simp at hc4; done) | (simp_all; done))
 (try simp only [zB, reduceCtorEq] at hc4)
 refine ay ?_
 apply k2; clear k2; refine kp [0, 2, 4] ?_
 refine ah fun _ k5 => ?_
 refine am hP hN rfl ?_
 (refine aj rfl fun _ k0 => ?_; simp only [zO, zT, acs, reduceCtorEq, aa, V, ad, ag, af, ae]; (repeat refine an ?_); refine Or.inr (Or.inl (k0 _ ?_)); clear k0; simp only [zP, V])
 iterate 3 (refine aj rfl fun _ k0 => ?_; simp only [zO, zT, acs, reduceCtorEq, aa, V, ad, ag, af, ae]; (repeat refine an ?_); (try refine .inl ?_); apply k0; clear k0; simp only [zP, V])
 refine ao ?_
 apply k5; clear k5; refine kp [0, 2, 4] ?_
 refine aE ?_
 refine ⟨by first | exact .inl rfl | exact .inr rfl, _, rfl, _, _, rfl, ?_⟩
 rfl
theorem tQ {P : Program} {f : FuncId} {t t2 : Ty} {e2 : TypeId} {xs : List t.den} {ys : List t2.den} (h0 : xs = [] → kw P f [.one .nils] t2 e2 ys) (h1 : xs = [] → kw P f [.one .emp] t2 e2 ys) (h2 : 0 < xs.length → kw P f [.one (.list t xs)] t2 e2 ys) (hc : gn P f) : kw P f [.one (.list t xs)] t2 e2 ys := by
  refine ⟨hc, fun C L σ w vs hP hI ha => ?_⟩
  obtain ⟨u, rfl, hu⟩ := ha.one
  rcases kt hu with ⟨e, h⟩ | ⟨e, h⟩ | h
  · exact (h0 e).2 C L σ w _ hP hI ⟨h, trivial⟩
  · exact (h1 e).2 C L σ w _ hP hI ⟨h, trivial⟩
  · exact (h2 h).2 C L σ w _ hP hI ⟨hu, trivial⟩
theorem yM (xs : List Int) (h : xs.length ≤ 10000000000000) : kw Try.prog 51 [.one (.list (.int .i64) xs)] (.int .i64) 3 xs :=
  tQ (t := .int .i64) (fun e => by subst e; exact sY) (fun e => by subst e; exact yC) (fun h0 => nI xs h0 h) sY.1
end Go.Proofs.Ytoahhklogohehaa
