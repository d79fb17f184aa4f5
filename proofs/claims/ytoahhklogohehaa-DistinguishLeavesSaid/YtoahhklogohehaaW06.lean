/- Contracts of functions of this seat, each out of a walk through its code, and plain facts on what they compute. Conditions: those that each theorem names. -/
import Derived.Test.YtoahhklogohehaaW05
set_option linter.unusedSimpArgs false
set_option linter.unusedVariables false
set_option maxRecDepth 100000
namespace Go.Proofs.Ytoahhklogohehaa
open Go Go.AV
open Nat renaming reduceEqDiff → aa, reduceAdd → V, reduceLeDiff → ad, reduceLT → ag, reduceMul → af, reduceSub → ae
open List renaming set_cons_zero → cK, set_cons_succ → cF, getD_cons_zero → au, length_append → ar, map_cons → aJ, cons_append → aN, map_nil → bz, length_cons → ax, nil_append → b6, take_succ_cons → d6, length_nil → aI, length_map → aw, length_replicate → aB, take_length → aO, mem_cons_self → aV, mem_cons_of_mem → aM
open Int renaming toNat_natCast → ai
theorem yY (m : Mly) : cb Try.prog 87 [m.av, .one (.int .i64 (m.nx.length : Int))] (.tup [.one (.list (.int .i64) (if aL m = 0 then m.cls m.nx.length else [])), .one (.int .i64 (aL m))]) := by
 refine aT Try.func87 rfl (by kernel_rfl) (Nat.le_of_ble_eq_true rfl) rfl fun C hP hN hB => ?_
 replace hN : C.N = 34 := hN
 simp only [bc, V]
 refine ah fun _ k1 => ?_
 refine am hP hN rfl ?_
 iterate 3 (refine aj rfl fun _ k0 => ?_; simp only [zO, zT, acs, reduceCtorEq, aa, V, ad, ag, af, ae, Mly.av, ai]; (repeat refine an ?_); (try refine .inl ?_); apply k0; clear k0; simp only [zP, V])
 refine ao ?_
 apply k1; clear k1; refine kp [0, 1, 2, 4, 5] ?_
 refine ah fun _ k2 => ?_
 refine ah fun _ k3 => ?_
 refine am hP hN rfl ?_
 (refine aj rfl fun _ k0 => ?_; simp only [zO, zT, acs, reduceCtorEq, aa, V, ad, ag, af, ae, Mly.av, ai]; (repeat refine an ?_); (try refine .inl ?_); apply k0; clear k0; simp only [zP, V])
 refine aj rfl fun _ k0 => ?_
 refine aK (h := aC (ss m)) rfl rfl (by first | exact rfl | (simp only [ev, zP, aa, V]; exact rfl)) (by simp only [zV, acs, reduceCtorEq, aa, V, ad, ag, af, ae, Mly.av, ai]) ?_
 apply k0; clear k0; simp only [zP, V]
 (refine aj rfl fun _ k0 => ?_; simp only [zO, zT, acs, reduceCtorEq, aa, V, ad, ag, af, ae, Mly.av, ai]; (repeat refine an ?_); (try refine .inl ?_); apply k0; clear k0; simp only [zP, V])
 refine ao ?_
 apply k3; clear k3; refine kp [0, 1, 2, 4, 5, 6] ?_
 refine ah fun _ k4 => ?_
 refine am hP hN rfl ?_
 iterate 2 (refine aj rfl fun _ k0 => ?_; simp only [zO, zT, acs, reduceCtorEq, aa, V, ad, ag, af, ae, Mly.av, ai]; (repeat refine an ?_); (try refine .inl ?_); apply k0; clear k0; simp only [zP, V])
 refine ao ?_
 apply k4; clear k4; refine kp [0, 1, 2, 4, 5, 6, 12] ?_
 refine cd (fun hc5 => ?_) (fun hc5 => ?_)
 ·(try simp only [zB, reduceCtorEq] at hc5)
  have hv : ¬ aL m = 0 := hc5
  refine ah fun _ k6 => ?_
  refine am hP hN rfl ?_
  iterate 3 (refine aj rfl fun _ k0 => ?_; simp only [zO, zT, acs, reduceCtorEq, aa, V, ad, ag, af, ae, Mly.av, ai]; (repeat refine an ?_); (try refine .inl ?_); apply k0; clear k0; simp only [zP, V])
  refine ao ?_
  apply k6; clear k6; refine kp [0, 1, 2, 4, 5, 6, 12] ?_
  refine aE ?_
  refine ⟨nr, _, rfl, ?_⟩; simp only [zF, zP, aa, V, Mly.av, ai]
  first
  | (rw [if_neg hv]; exact bE ⟨aF (bo rfl), aF (.refl _), trivial⟩)
  | (rw [if_pos hv, hv, hke]; exact VLE.of_eq rfl)
 (try simp only [zB, reduceCtorEq] at hc5)
 have hv : aL m = 0 := by simpa using hc5
 have hm := eJ hv
 have hn2 := hm.n2
 refine ay ?_
 apply k2; clear k2; refine kp [0, 1, 2, 4, 5, 6, 12] ?_
 refine ah fun _ k7 => ?_
 refine am hP hN rfl ?_
 iterate 3 (refine aj rfl fun _ k0 => ?_; simp only [zO, zT, acs, reduceCtorEq, aa, V, ad, ag, af, ae, Mly.av, ai]; (repeat refine an ?_); (try refine .inl ?_); apply k0; clear k0; simp only [zP, V])
 (refine aj rfl fun _ k0 => ?_; simp only [zE, op1, ev, lkp, d7, ca, cR, bC, Ty.size, Ty.dflt, reduceCtorEq, aa, V, ad, ag, af, ae, Try.el41, Try.td41, Mly.av, ai]; (repeat refine an ?_); refine Or.inr (Or.inr (k0 _ ?_)); clear k0; simp only [zP, V])
 (refine aj rfl fun _ k0 => ?_; simp only [zO, zT, acs, reduceCtorEq, aa, V, ad, ag, af, ae, Mly.av, ai]; (repeat refine an ?_); (try refine .inl ?_); apply k0; clear k0; simp only [zP, V])
 refine ao ?_
 apply k7; clear k7; refine kp [0, 1, 2, 4, 5, 6, 7, 12] ?_
 refine ah fun _ k8 => ?_
 refine ah fun _ k9 => ?_
 refine am hP hN rfl ?_
 (refine aj rfl fun _ k0 => ?_; simp only [zO, zT, acs, reduceCtorEq, aa, V, ad, ag, af, ae, Mly.av, ai]; (repeat refine an ?_); (try refine .inl ?_); apply k0; clear k0; simp only [zP, V])
 refine ao ?_
 apply k9; clear k9; refine kp [0, 1, 2, 4, 5, 6, 7, 8, 12] ?_
 refine aD ?_
 refine bn (fun n10 s10 => ∃ (k : Nat), (k ≤ m.nx.length) ∧ n10 = m.nx.length - k ∧ s10 = { env := [(1, .one (.int .i64 (m.nx.length : Int))), (2, .one (.ptr 0 0 0 0)), (4, .one .nils), (5, .one (.int .i64 0)), (7, .one (.list (.int .i64) (m.cls k))), (8, .one (.int .i64 (k : Int)))], L := [.vars 24 [.int .i64 m.inp, .int .i64 m.st, .list (.list (.int .i64)) m.nx, .list (.list (.int .i64)) m.ot]] }) ?_ ?_
 ·exact ⟨_, _, aA [1, 2, 4, 5, 7, 8], 0, Nat.zero_le _, rfl, rfl⟩
 rintro n10 s10 ⟨k, hk, rfl, rfl⟩
 refine ah fun _ k11 => ?_
 refine ah fun _ k12 => ?_
 refine am hP hN rfl ?_
 iterate 4 (refine aj rfl fun _ k0 => ?_; simp only [zO, zT, acs, reduceCtorEq, aa, V, ad, ag, af, ae, Mly.av, ai]; (repeat refine an ?_); (try refine .inl ?_); apply k0; clear k0; simp only [zP, V])
 refine' aR (want := true) 5 rfl (m := 21) (by simp only [zP, aa, V]; exact rfl) (by kernel_rfl) rfl rfl rfl rfl rfl (fun hg13 => ?a13) ?b13 ?c13
 case a13 =>
  have hq13 := hg13; (try simp only [zB, reduceCtorEq] at hg13); simp only [zE]
  iterate 5 (refine bp rfl fun _ k0 => ?_; simp only [zO, zT, acs, reduceCtorEq, aa, V, ad, ag, af, ae, Mly.av, ai]; (repeat refine an ?_); (try refine .inl ?_); apply k0; clear k0; simp only [zP, V])
  (refine aj rfl fun _ k0 => ?_; simp only [zO, zT, acs, reduceCtorEq, aa, V, ad, ag, af, ae, Mly.av, ai]; (repeat refine an ?_); (try refine .inl ?_); apply k0; clear k0; simp only [zP, V])
  refine ao ?_
  refine ⟨by simp only [zP, aa, V]; exact rfl, rfl, ?_, rfl⟩; (repeat refine aS rfl ?_); exact bB (by exact rfl) hq13
 case b13 => exact cD
 simp only [bh, aY]
 refine ao ?_
 apply k12; clear k12; refine kp [1, 2, 4, 5, 7, 8, 27] ?_
 refine cd (fun hc14 => ?_) (fun hc14 => ?_)
 ·(try simp only [zB, reduceCtorEq] at hc14)
  refine ay ?_
  apply k11; clear k11; refine kp [1, 2, 4, 5, 7, 8, 27] ?_
  refine ah fun _ k15 => ?_
  refine aD ?_
  refine am hP hN rfl ?_
  iterate 2 (refine aj rfl fun _ k0 => ?_; simp only [zO, zT, acs, reduceCtorEq, aa, V, ad, ag, af, ae, Mly.av, ai]; (repeat refine an ?_); (try refine .inl ?_); apply k0; clear k0; simp only [zP, V])
  refine aj rfl fun _ k0 => ?_
  refine aK (h := aC (zN m k hm)) rfl rfl (by first | exact rfl | (simp only [ev, zP, aa, V]; exact rfl)) (by simp only [zV, acs, reduceCtorEq, aa, V, ad, ag, af, ae, Mly.av, ai]) ?_
  apply k0; clear k0; simp only [zP, V]
  (refine aj rfl fun _ k0 => ?_; simp only [zO, zT, acs, reduceCtorEq, aa, V, ad, ag, af, ae, Mly.av, ai]; (repeat refine an ?_); (try refine .inl ?_); apply k0; clear k0; simp only [zP, V])
  refine ao ?_
  apply k15; clear k15; refine kp [1, 2, 4, 5, 7, 8, 27] ?_
  refine am hP hN rfl ?_
  iterate 3 (refine aj rfl fun _ k0 => ?_; simp only [zO, zT, acs, reduceCtorEq, aa, V, ad, ag, af, ae, Mly.av, ai]; (repeat refine an ?_); (try refine .inl ?_); apply k0; clear k0; simp only [zP, V])
  refine ao ?_
  refine ⟨_, _, ?_, aA [1, 2, 4, 5, 7, 8], k + 1, by omega, rfl, rfl⟩
  omega
 (try simp only [zB, reduceCtorEq] at hc14)
 have hke : k = m.nx.length := by omega
 refine aZ ?_
 apply k8; clear k8; refine kp [1, 2, 4, 5, 7, 8, 27] ?_
 refine ah fun _ k16 => ?_
 refine am hP hN rfl ?_
 iterate 3 (refine aj rfl fun _ k0 => ?_; simp only [zO, zT, acs, reduceCtorEq, aa, V, ad, ag, af, ae, Mly.av, ai]; (repeat refine an ?_); (try refine .inl ?_); apply k0; clear k0; simp only [zP, V])
 refine ao ?_
 apply k16; clear k16; refine kp [1, 2, 4, 5, 7, 8, 27] ?_
 refine aE ?_
 refine ⟨nr, _, rfl, ?_⟩; simp only [zF, zP, aa, V, Mly.av, ai]
 first
 | (rw [if_neg hv]; exact bE ⟨aF (bo rfl), aF (.refl _), trivial⟩)
 | (rw [if_pos hv, hv, hke]; exact VLE.of_eq rfl)
theorem zM (m : Mly) : cb Try.prog 78 [m.av] (.tup [.one (.list (.int .i64) (if aL m = 0 then m.cls m.nx.length else [])), .one (.int .i64 (aL m))]) := by
 refine aT Try.func78 rfl (by kernel_rfl) (Nat.le_of_ble_eq_true rfl) rfl fun C hP hN hB => ?_
 replace hN : C.N = 11 := hN
 simp only [bc, V]
 refine ah fun _ k1 => ?_
 refine am hP hN rfl ?_
 iterate 3 (refine aj rfl fun _ k0 => ?_; simp only [zO, zT, acs, reduceCtorEq, aa, V, ad, ag, af, ae, Mly.av]; (repeat refine an ?_); (try refine .inl ?_); apply k0; clear k0; simp only [zP, V])
 refine ao ?_
 apply k1; clear k1; refine kp [0, 1, 2, 3] ?_
 refine ah fun _ k2 => ?_
 refine am hP hN rfl ?_
 iterate 4 (refine aj rfl fun _ k0 => ?_; simp only [zO, zT, acs, reduceCtorEq, aa, V, ad, ag, af, ae, Mly.av]; (repeat refine an ?_); (try refine .inl ?_); apply k0; clear k0; simp only [zP, V])
 refine aj rfl fun _ k0 => ?_
 refine aK (h := aC (yY m)) rfl rfl (by first | exact rfl | (simp only [ev, zP, aa, V]; exact rfl)) (by simp only [zV, acs, reduceCtorEq, aa, V, ad, ag, af, ae, Mly.av]) ?_
 apply k0; clear k0; simp only [zP, V]
 iterate 4 (refine aj rfl fun _ k0 => ?_; simp only [zO, zT, acs, reduceCtorEq, aa, V, ad, ag, af, ae, Mly.av]; (repeat refine an ?_); (try refine .inl ?_); apply k0; clear k0; simp only [zP, V])
 refine ao ?_
 apply k2; clear k2; refine kp [0, 1, 2, 3] ?_
 refine aE ?_
 refine ⟨nr, _, rfl, ?_⟩; simp only [zF, zP, aa, V, Mly.av]
 refine VLE.of_eq ?_
 rfl
set_option maxHeartbeats 2500000 in
theorem ul (m : Mly) : cb Try.prog 63 [m.av] (.tup [if aL m = 0 then .agg [.int .i64 m.inp, .int .i64 0, .list (.list (.int .i64)) (mmF m).2, .junk] else Mly.av ⟨0, 0, [], []⟩, .one (.int .i64 (aL m))]) := by
 refine aT Try.func63 rfl (by kernel_rfl) (Nat.le_of_ble_eq_true rfl) rfl fun C hP hN hB => ?_
 replace hN : C.N = 130 := hN
 simp only [bc, V]
 refine ah fun _ k1 => ?_
 refine am hP hN rfl ?_
 iterate 3 (refine aj rfl fun _ k0 => ?_; simp only [zO, zT, acs, reduceCtorEq, aa, V, ad, ag, af, ae, Mly.av, ai, bH]; (repeat refine an ?_); (try refine .inl ?_); apply k0; clear k0; simp only [zP, V])
 refine ao ?_
 apply k1; clear k1; refine kp [0, 1, 2, 3] ?_
 refine ah fun _ k2 => ?_
 refine am hP hN rfl ?_
 (refine aj rfl fun _ k0 => ?_; simp only [zO, zT, acs, reduceCtorEq, aa, V, ad, ag, af, ae, Mly.av, ai, bH]; (repeat refine an ?_); (try refine .inl ?_); apply k0; clear k0; simp only [zP, V])
 refine aj rfl fun _ k0 => ?_
 refine aK (h := aC (zM m)) rfl rfl (by first | exact rfl | (simp only [ev, zP, aa, V]; exact rfl)) (by simp only [zV, acs, reduceCtorEq, aa, V, ad, ag, af, ae, Mly.av, ai, bH]) ?_
 apply k0; clear k0; simp only [zP, V]
 iterate 5 (refine aj rfl fun _ k0 => ?_; simp only [zO, zT, acs, reduceCtorEq, aa, V, ad, ag, af, ae, Mly.av, ai, bH]; (repeat refine an ?_); (try refine .inl ?_); apply k0; clear k0; simp only [zP, V])
 refine ao ?_
 apply k2; clear k2; refine kp [0, 1, 2, 3, 4, 5] ?_
 refine ah fun _ k3 => ?_
 refine ah fun _ k4 => ?_
 refine am hP hN rfl ?_
 iterate 2 (refine aj rfl fun _ k0 => ?_; simp only [zO, zT, acs, reduceCtorEq, aa, V, ad, ag, af, ae, Mly.av, ai, bH]; (repeat refine an ?_); (try refine .inl ?_); apply k0; clear k0; simp only [zP, V])
 refine ao ?_
 apply k4; clear k4; refine kp [0, 1, 2, 3, 4, 5, 21] ?_
 refine cd (fun hc5 => ?_) (fun hc5 => ?_)
 ·(try simp only [zB, reduceCtorEq] at hc5)
  have hv : ¬ aL m = 0 := hc5
  refine ah fun _ k6 => ?_
  refine am hP hN rfl ?_
  iterate 4 (refine aj rfl fun _ k0 => ?_; simp only [zO, zT, acs, reduceCtorEq, aa, V, ad, ag, af, ae, Mly.av, ai, bH]; (repeat refine an ?_); (try refine .inl ?_); apply k0; clear k0; simp only [zP, V])
  refine ao ?_
  apply k6; clear k6; refine kp [0, 1, 2, 3, 4, 5, 21] ?_
  refine aE ?_
  refine ⟨nr, _, rfl, ?_⟩; simp only [zF, zP, aa, V, Mly.av, ai, bH]
  first
  | (rw [if_neg hv]; exact bE ⟨dM ⟨.refl _, .refl _, bo rfl, bo rfl, trivial⟩, aF (.refl _), trivial⟩)
  | (rw [if_pos hv, hv, ← hRX]; exact bE ⟨dM ⟨.refl _, .refl _, .refl _, fun C L σ w u hu => ⟨hu.1, trivial⟩, trivial⟩, aF (.refl _), trivial⟩)
 (try simp only [zB, reduceCtorEq] at hc5)
 have hv : aL m = 0 := by simpa using hc5
 have hm := eJ hv
 have hi1 := hm.i1; have hi2 := hm.i2; have hn1 := hm.n1; have hn2 := hm.n2; have hs1 := hm.s1; have hs2 := hm.s2; have ol := hm.ol
 have hcl := kB m m.nx.length
 refine tM 4 (v' := .one (.list (.int .i64) (m.cls m.nx.length))) rfl (VLE.of_eq (by show AV.one (.list (.int .i64) (if aL m = 0 then m.cls m.nx.length else [])) = _; rw [if_pos hv])) ?_
 refine ay ?_
 apply k3; clear k3; refine kp [0, 1, 2, 3, 4, 5, 21] ?_
 refine ah fun _ k7 => ?_
 refine am hP hN rfl ?_
 iterate 2 (refine aj rfl fun _ k0 => ?_; simp only [zO, zT, acs, reduceCtorEq, aa, V, ad, ag, af, ae, Mly.av, ai, bH]; (repeat refine an ?_); (try refine .inl ?_); apply k0; clear k0; simp only [zP, V])
 (refine aj rfl fun _ k0 => ?_; simp only [zO, zT, acs, reduceCtorEq, aa, V, ad, ag, af, ae, Mly.av, ai, bH]; (repeat refine an ?_); refine Or.inr (Or.inl (k0 _ ?_)); clear k0; simp only [zP, V])
 (refine aj rfl fun _ k0 => ?_; simp only [zO, zT, acs, reduceCtorEq, aa, V, ad, ag, af, ae, Mly.av, ai, bH]; (repeat refine an ?_); (try refine .inl ?_); apply k0; clear k0; simp only [zP, V])
 refine ao ?_
 apply k7; clear k7; refine kp [0, 1, 2, 3, 4, 5, 6, 21] ?_
 refine ah fun _ k8 => ?_
 refine am hP hN rfl ?_
 iterate 3 (refine aj rfl fun _ k0 => ?_; simp only [zO, zT, acs, reduceCtorEq, aa, V, ad, ag, af, ae, Mly.av, ai, bH]; (repeat refine an ?_); (try refine .inl ?_); apply k0; clear k0; simp only [zP, V])
 (refine aj rfl fun _ k0 => ?_; simp only [zE, op1, ev, lkp, d7, ca, bZ, df, Nat.mul_one, ci, cT, acs, Ty.dflt, zG, cm, cq, fb, eB, cP, db, eH, Nat.div_one, cM, dg, Ty.size, bC, dite_true, cR, reduceCtorEq, aa, V, ad, ag, af, ae, Try.el22, Try.el41, Try.st24, Try.td2, Try.td22, Try.td24, Try.td3, Try.td41, Mly.av, ai, bH]; (repeat refine an ?_); (try refine .inl ?_); apply k0; clear k0; simp only [zP, V])
 (refine aj rfl fun _ k0 => ?_; simp only [zO, zT, acs, reduceCtorEq, aa, V, ad, ag, af, ae, Mly.av, ai, bH]; (repeat refine an ?_); (try refine .inl ?_); apply k0; clear k0; simp only [zP, V])
 refine ao ?_
 apply k8; clear k8; refine kp [0, 1, 2, 3, 4, 5, 6, 7, 21] ?_
 refine ah fun _ k9 => ?_
 refine ah fun _ k10 => ?_
 refine am hP hN rfl ?_
 (refine aj rfl fun _ k0 => ?_; simp only [zO, zT, acs, reduceCtorEq, aa, V, ad, ag, af, ae, Mly.av, ai, bH]; (repeat refine an ?_); (try refine .inl ?_); apply k0; clear k0; simp only [zP, V])
 refine ao ?_
 apply k10; clear k10; refine kp [0, 1, 2, 3, 4, 5, 6, 7, 8, 21] ?_
 refine aD ?_
 refine bn (fun n11 s11 => ∃ (k : Nat), (k ≤ m.nx.length) ∧ n11 = m.nx.length - k ∧ s11 = { env := [(1, .one (.ptr 0 0 0 0)), (2, .one (.ptr 1 0 0 0)), (3, .one (.int .i64 0)), (4, .one (.list (.int .i64) (m.cls m.nx.length))), (6, .one (.row 2 0)), (7, .one (.row 3 0)), (8, .one (.int .i64 (k : Int)))], L := [.vars 24 [.int .i64 m.inp, .int .i64 m.st, .list (.list (.int .i64)) m.nx, .list (.list (.int .i64)) m.ot], .vars 24 [.int .i64 0, .int .i64 0, .nils, .nils], .row (.int .i64) 3 0 [m.st], .row (.int .i64) 3 0 (prL (fun _ => -1) m.nx.length k 0)] }) ?_ ?_
 ·refine ⟨_, _, aA [1, 2, 3, 4, 6, 7, 8], 0, Nat.zero_le _, rfl, ?_⟩
  rw [A3]; rfl
 rintro n11 s11 ⟨k, hk, rfl, rfl⟩
 refine ah fun _ k12 => ?_
 refine ah fun _ k13 => ?_
 refine am hP hN rfl ?_
 iterate 4 (refine aj rfl fun _ k0 => ?_; simp only [zO, zT, acs, reduceCtorEq, aa, V, ad, ag, af, ae, Mly.av, ai, bH, pH]; (repeat refine an ?_); (try refine .inl ?_); apply k0; clear k0; simp only [zP, V])
 refine ao ?_
 apply k13; clear k13; refine kp [1, 2, 3, 4, 6, 7, 8, 34] ?_
 refine cd (fun hc14 => ?_) (fun hc14 => ?_)
 ·(try simp only [zB, reduceCtorEq] at hc14)
  refine ay ?_
  apply k12; clear k12; refine kp [1, 2, 3, 4, 6, 7, 8, 34] ?_
  refine ah fun _ k15 => ?_
  refine aD ?_
  have hp9 := uZ (f := fun _ => (-1 : Int)) (n := m.nx.length) (s := k) (by omega)
  refine am hP hN rfl ?_
  iterate 4 (refine aj rfl fun _ k0 => ?_; simp only [zO, zT, acs, reduceCtorEq, aa, V, ad, ag, af, ae, Mly.av, ai, bH, pH]; (repeat refine an ?_); (try refine .inl ?_); apply k0; clear k0; simp only [zP, V])
  refine ao ?_
  apply k15; clear k15; refine kp [1, 2, 3, 4, 6, 7, 8, 34] ?_
  refine am hP hN rfl ?_
  iterate 3 (refine aj rfl fun _ k0 => ?_; simp only [zO, zT, acs, reduceCtorEq, aa, V, ad, ag, af, ae, Mly.av, ai, bH]; (repeat refine an ?_); (try refine .inl ?_); apply k0; clear k0; simp only [zP, V])
  refine ao ?_
  refine ⟨_, _, ?_, aA [1, 2, 3, 4, 6, 7, 8], k + 1, by omega, rfl, ?_⟩
  · omega
  · rw [hp9, ← sR]; rfl
 (try simp only [zB, reduceCtorEq] at hc14)
 refine aZ ?_
 apply k9; clear k9; refine kp [1, 2, 3, 4, 6, 7, 8, 34] ?_
 refine ah fun _ k16 => ?_
 have hc0 : 0 ≤ (m.cls m.nx.length).getD m.st.toNat 0 ∧ (m.cls m.nx.length).getD m.st.toNat 0 < m.nx.length := uw hm ⟨hs1, hs2⟩
 have hke : k = m.nx.length := by omega
 have hset0 : (gx m []).set ((m.cls m.nx.length).getD m.st.toNat 0).toNat 0 = gx m [m.st] := tc (m := m) (O := []) (t := m.st) (c := ((m.cls m.nx.length).getD m.st.toNat 0).toNat) (by omega) (by show (m.cls m.nx.length).getD m.st.toNat 0 = _; omega) (by show (-1 : Int) < 0; omega)
 rw [hke, v7, show (List.range m.nx.length).map (fun _ => (-1 : Int)) = gx m [] by rw [yD]; simp [List.map_const']]
 refine am hP hN rfl ?_
 iterate 8 (refine aj rfl fun _ k0 => ?_; simp only [zO, zT, acs, reduceCtorEq, aa, V, ad, ag, af, ae, Mly.av, ai, bH]; (repeat refine an ?_); (try refine .inl ?_); apply k0; clear k0; simp only [zP, V, hset0])
 refine ao ?_
 apply k16; clear k16; refine kp [1, 2, 3, 4, 6, 7, 8, 34] ?_
 refine ah fun _ k17 => ?_
 refine am hP hN rfl ?_
 iterate 5 (refine aj rfl fun _ k0 => ?_; simp only [zO, zT, acs, reduceCtorEq, aa, V, ad, ag, af, ae, Mly.av, ai, bH]; (repeat refine an ?_); (try refine .inl ?_); apply k0; clear k0; simp only [zP, V])
 refine ao ?_
 apply k17; clear k17; refine kp [1, 2, 3, 4, 6, 7, 8, 9, 34] ?_
 refine ah fun _ k18 => ?_
 refine ah fun _ k19 => ?_
 refine am hP hN rfl ?_
 (refine aj rfl fun _ k0 => ?_; simp only [zO, zT, acs, reduceCtorEq, aa, V, ad, ag, af, ae, Mly.av, ai, bH]; (repeat refine an ?_); (try refine .inl ?_); apply k0; clear k0; simp only [zP, V])
 refine ao ?_
 apply k19; clear k19; refine kp [1, 2, 3, 4, 6, 7, 8, 9, 10, 34] ?_
 refine aD ?_
 refine fh 4 2 (.list (.int .i64)) 41 (by decide) rfl rfl ?_; simp only [zS, ax, aI, aN, b6, Nat.zero_add, V]
 refine fh 4 3 (.list (.int .i64)) 41 (by decide) rfl rfl ?_; simp only [zS, ax, aI, aN, b6, Nat.zero_add, V]
 refine bn (fun n20 s20 => ∃ (i v y z : Nat) (O : List Int) (RX RY : CQ), (i ≤ O.length) ∧ (MO m O) ∧ (RX.length = i ∧ RY.length = i) ∧ (nU m (m.nx.length + 1 - i) i (O, RX) = mmF m) ∧ n20 = m.nx.length + 1 - i ∧ s20 = { env := [(1, .one (.ptr 0 0 0 0)), (2, .one (.ptr 1 0 0 0)), (3, .one (.int .i64 0)), (4, .one (.list (.int .i64) (m.cls m.nx.length))), (6, .one (.row 2 v)), (7, .one (.row 3 0)), (9, .one (.ptr 4 0 0 0)), (10, .one (.int .i64 (i : Int)))], L := [.vars 24 [.int .i64 m.inp, .int .i64 m.st, .list (.list (.int .i64)) m.nx, .list (.list (.int .i64)) m.ot], .vars 24 [.int .i64 0, .int .i64 0, .nils, .nils], .row (.int .i64) 3 v O, .row (.int .i64) 3 0 (gx m O), .vars 24 [.int .i64 m.inp, .int .i64 0, .row 5 y, .row 6 z], .row (.list (.int .i64)) 41 y RX, .row (.list (.int .i64)) 41 z RY] }) ?_ ?_
 ·exact ⟨_, _, aA [1, 2, 3, 4, 6, 7, 9, 10], 0, 0, 0, 0, [m.st], [], [], Nat.zero_le _, ⟨fun o ho => by rw [List.mem_singleton] at ho; rw [ho]; exact ⟨hs1, hs2⟩, List.pairwise_singleton _ _⟩, ⟨rfl, rfl⟩, rfl, rfl, rfl⟩
 rintro n20 s20 ⟨i, v, y, z, O, RX, RY, hi, hO, hRl0, hgo, rfl, rfl⟩
 refine ah fun _ k21 => ?_
 refine ah fun _ k22 => ?_
 refine am hP hN rfl ?_
 iterate 4 (refine aj rfl fun _ k0 => ?_; simp only [zO, zT, acs, reduceCtorEq, aa, V, ad, ag, af, ae, Mly.av, ai, bH]; (repeat refine an ?_); (try refine .inl ?_); apply k0; clear k0; simp only [zP, V])
 refine ao ?_
 apply k22; clear k22; refine kp [1, 2, 3, 4, 6, 7, 9, 10, 53] ?_
 refine cd (fun hc23 => ?_) (fun hc23 => ?_)
 ·(try simp only [zB, reduceCtorEq] at hc23)
  refine ay ?_
  apply k21; clear k21; refine kp [1, 2, 3, 4, 6, 7, 9, 10, 53] ?_
  refine ah fun _ k24 => ?_
  refine aD ?_
  refine ah fun _ k25 => ?_
  have hil : i < O.length := by omega
  have hxr := hO.rng _ (br hil)
  have hOl := hO.len
  refine am hP hN rfl ?_
  iterate 2 (refine aj rfl fun _ k0 => ?_; simp only [zO, zT, acs, reduceCtorEq, aa, V, ad, ag, af, ae, Mly.av, ai, bH]; (repeat refine an ?_); (try refine .inl ?_); apply k0; clear k0; simp only [zP, V])
  refine ao ?_
  apply k25; clear k25; refine kp [1, 2, 3, 4, 6, 7, 9, 10, 11, 12, 53] ?_
  refine ah fun _ k26 => ?_
  refine ah fun _ k27 => ?_
  refine am hP hN rfl ?_
  (refine aj rfl fun _ k0 => ?_; simp only [zO, zT, acs, reduceCtorEq, aa, V, ad, ag, af, ae, Mly.av, ai, bH]; (repeat refine an ?_); (try refine .inl ?_); apply k0; clear k0; simp only [zP, V])
  refine ao ?_
  apply k27; clear k27; refine kp [1, 2, 3, 4, 6, 7, 9, 10, 11, 12, 13, 53] ?_
  refine aD ?_
  refine fP 11 (.int .i64) 3 (by decide) rfl ?_; simp only [ax, aI, aN, b6, Nat.zero_add, V]
  refine fP 12 (.int .i64) 3 (by decide) rfl ?_; simp only [ax, aI, aN, b6, Nat.zero_add, V]
  refine bn (fun n28 s28 => ∃ (a v2 w1 w2 : Nat) (RO : List Int), ((a : Int) ≤ m.inp) ∧ (RO.length = a) ∧ n28 = m.inp.toNat - a ∧ s28 = { env := [(1, .one (.ptr 0 0 0 0)), (2, .one (.ptr 1 0 0 0)), (3, .one (.int .i64 0)), (4, .one (.list (.int .i64) (m.cls m.nx.length))), (6, .one (.row 2 v2)), (7, .one (.row 3 0)), (9, .one (.ptr 4 0 0 0)), (10, .one (.int .i64 (i : Int))), (11, .one (.row 7 w1)), (12, .one (.row 8 w2)), (13, .one (.int .i64 (a : Int))), (53, .one (.bool true))], L := [.vars 24 [.int .i64 m.inp, .int .i64 m.st, .list (.list (.int .i64)) m.nx, .list (.list (.int .i64)) m.ot], .vars 24 [.int .i64 0, .int .i64 0, .nils, .nils], .row (.int .i64) 3 v2 (d4 m (O.getD i 0) O a).1, .row (.int .i64) 3 0 (gx m (d4 m (O.getD i 0) O a).1), .vars 24 [.int .i64 m.inp, .int .i64 0, .row 5 y, .row 6 z], .row (.list (.int .i64)) 41 y RX, .row (.list (.int .i64)) 41 z RY, .row (.int .i64) 3 w1 (d4 m (O.getD i 0) O a).2, .row (.int .i64) 3 w2 RO] }) ?_ ?_
  ·refine ⟨_, _, aA [1, 2, 3, 4, 6, 7, 9, 10, 11, 12, 13, 53], 0, v, 0, 0, [], by omega, rfl, rfl, ?_⟩
   rw [decide_eq_true (show (i : Int) < (O.length : Int) by omega)]; rfl
  rintro n28 s28 ⟨a, v2, w1, w2, RO, ha, hRO, rfl, rfl⟩
  refine ah fun _ k29 => ?_
  refine ah fun _ k30 => ?_
  refine am hP hN rfl ?_
  iterate 4 (refine aj rfl fun _ k0 => ?_; simp only [zO, zT, acs, reduceCtorEq, aa, V, ad, ag, af, ae, Mly.av, ai, bH]; (repeat refine an ?_); (try refine .inl ?_); apply k0; clear k0; simp only [zP, V])
  refine ao ?_
  apply k30; clear k30; refine kp [1, 2, 3, 4, 6, 7, 9, 10, 11, 12, 13, 53, 59] ?_
  refine cd (fun hc31 => ?_) (fun hc31 => ?_)
  ·(try simp only [zB, reduceCtorEq] at hc31)
   refine ay ?_
   apply k29; clear k29; refine kp [1, 2, 3, 4, 6, 7, 9, 10, 11, 12, 13, 53, 59] ?_
   refine ah fun _ k32 => ?_
   refine aD ?_
   refine ah fun _ k33 => ?_
   obtain ⟨hR1, hR2, rr, hR3⟩ := kN hm hxr hO a (by omega)
   have hRl := hR1.len
   have hgx : (d4 m (O.getD i 0) O a).1.getD i 0 = (O.getD i 0) := by rw [hR3]; simp [List.getD, List.getElem?_append_left hil]
   have hil2 : i < (d4 m (O.getD i 0) O a).1.length := by rw [hR3, ar]; omega
   have q1 := hm.rl (O.getD i 0).toNat (by omega)
   have hnr := hm.nr (O.getD i 0).toNat a (by omega) (by omega)
   have hct : 0 ≤ (m.cls m.nx.length).getD ((m.nx.getD (O.getD i 0).toNat []).getD a 0).toNat 0 ∧ (m.cls m.nx.length).getD ((m.nx.getD (O.getD i 0).toNat []).getD a 0).toNat 0 < m.nx.length := uw hm (t := (m.nxt (O.getD i 0) (a : Int))) hnr
   have hgn : ∀ Z, (gx m Z).getD ((m.cls m.nx.length).getD ((m.nx.getD (O.getD i 0).toNat []).getD a 0).toNat 0).toNat 0 = nmO m Z (cAt m (m.nxt (O.getD i 0) (a : Int))) := fun Z => (yn (by omega)).trans (congrArg (nmO m Z) (by show _ = (m.cls m.nx.length).getD ((m.nx.getD (O.getD i 0).toNat []).getD a 0).toNat 0; omega))
   refine bu hP hN Try.mixed rfl ?_
   iterate 12 (refine aj rfl fun _ k0 => ?_; simp only [zO, zT, acs, reduceCtorEq, aa, V, ad, ag, af, ae, Mly.av, ai, bH, hgx]; (repeat refine an ?_); (try refine .inl ?_); apply k0; clear k0; simp only [zP, V])
   refine ao ?_
   refine ⟨by kernel_rfl, ?_⟩
   apply k33; clear k33; refine kp [1, 2, 3, 4, 6, 7, 9, 10, 11, 12, 13, 14, 53, 59] ?_
   refine ah fun _ k34 => ?_
   refine ah fun _ k35 => ?_
   refine am hP hN rfl ?_
   iterate 8 (refine aj rfl fun _ k0 => ?_; simp only [zO, zT, acs, reduceCtorEq, aa, V, ad, ag, af, ae, Mly.av, ai, bH, hgn]; (repeat refine an ?_); (try refine .inl ?_); apply k0; clear k0; simp only [zP, V])
   refine ao ?_
   apply k35; clear k35; refine kp [1, 2, 3, 4, 6, 7, 9, 10, 11, 12, 13, 14, 53, 59, 80] ?_
   refine cd (fun hc36 => ?_) (fun hc36 => ?_)
   ·(try simp only [zB, reduceCtorEq] at hc36)
    have hnm : nmO m (d4 m (O.getD i 0) O a).1 (cAt m (m.nxt (O.getD i 0) (a : Int))) < 0 := hc36
    have hA : mmA m (d4 m (O.getD i 0) O a).1 (m.nxt (O.getD i 0) (a : Int)) = (d4 m (O.getD i 0) O a).1 ++ [(m.nxt (O.getD i 0) (a : Int))] := if_pos hnm
    refine ah fun _ k37 => ?_
    have hset1 : (gx m (d4 m (O.getD i 0) O a).1).set ((m.cls m.nx.length).getD ((m.nx.getD (O.getD i 0).toNat []).getD a 0).toNat 0).toNat ((d4 m (O.getD i 0) O a).1.length : Int) = gx m ((d4 m (O.getD i 0) O a).1 ++ [(m.nxt (O.getD i 0) (a : Int))]) := tc (by omega) (by show (m.cls m.nx.length).getD ((m.nx.getD (O.getD i 0).toNat []).getD a 0).toNat 0 = _; omega) (by rw [show ((((m.cls m.nx.length).getD ((m.nx.getD (O.getD i 0).toNat []).getD a 0).toNat 0).toNat : Nat) : Int) = cAt m (m.nxt (O.getD i 0) (a : Int)) by show _ = (m.cls m.nx.length).getD ((m.nx.getD (O.getD i 0).toNat []).getD a 0).toNat 0; omega]; exact hnm)
    refine am hP hN rfl ?_
    iterate 9 (refine aj rfl fun _ k0 => ?_; simp only [zO, zT, acs, reduceCtorEq, aa, V, ad, ag, af, ae, Mly.av, ai, bH, hgn]; (repeat refine an ?_); (try refine .inl ?_); apply k0; clear k0; simp only [zP, V, hset1])
    refine ao ?_
    apply k37; clear k37; refine kp [1, 2, 3, 4, 6, 7, 9, 10, 11, 12, 13, 14, 53, 59, 80] ?_
    refine am hP hN rfl ?_
    iterate 5 (refine aj rfl fun _ k0 => ?_; simp only [zO, zT, acs, reduceCtorEq, aa, V, ad, ag, af, ae, Mly.av, ai, bH]; (repeat refine an ?_); (try refine .inl ?_); apply k0; clear k0; simp only [zP, V])
    refine ao ?_
    apply k34; clear k34; refine kp [1, 2, 3, 4, 6, 7, 9, 10, 11, 12, 13, 14, 53, 59, 80] ?_
    refine ah fun _ k38 => ?_
    refine am hP hN rfl ?_
    iterate 11 (refine aj rfl fun _ k0 => ?_; simp only [zO, zT, acs, reduceCtorEq, aa, V, ad, ag, af, ae, Mly.av, ai, bH, hgn]; (repeat refine an ?_); (try refine .inl ?_); apply k0; clear k0; simp only [zP, V])
    refine ao ?_
    apply k38; clear k38; refine kp [1, 2, 3, 4, 6, 7, 9, 10, 11, 12, 13, 14, 53, 59, 80] ?_
    have q2 := hm.ql (O.getD i 0).toNat (by omega)
    have hgx2 : ((d4 m (O.getD i 0) O a).1 ++ [((m.nx.getD (O.getD i 0).toNat []).getD a 0)]).getD i 0 = (O.getD i 0) := (lF hil2).trans hgx
    refine bu hP hN Try.mixed rfl ?_
    iterate 15 (refine aj rfl fun _ k0 => ?_; simp only [zO, zT, acs, reduceCtorEq, aa, V, ad, ag, af, ae, Mly.av, ai, bH, hgx, hgx2, ar]; (repeat refine an ?_); (try refine .inl ?_); apply k0; clear k0; simp only [zP, V])
    refine ao ?_
    refine ⟨by kernel_rfl, ?_⟩
    apply k32; clear k32; refine kp [1, 2, 3, 4, 6, 7, 9, 10, 11, 12, 13, 14, 53, 59, 80] ?_
    refine am hP hN rfl ?_
    iterate 3 (refine aj rfl fun _ k0 => ?_; simp only [zO, zT, acs, reduceCtorEq, aa, V, ad, ag, af, ae, Mly.av, ai, bH]; (repeat refine an ?_); (try refine .inl ?_); apply k0; clear k0; simp only [zP, V])
    refine ao ?_
    first
    | (refine ⟨_, _, ?_, aA [1, 2, 3, 4, 6, 7, 9, 10, 11, 12, 13, 53], a + 1, v2 + 1, w1 + 1, w2 + 1, RO ++ [(m.ot.getD (O.getD i 0).toNat []).getD a 0], by omega, by rw [ar, hRO]; rfl, rfl, ?_⟩
       · omega
       · rw [gh]; unfold sQ; rw [hA]; rfl)
    | (refine ⟨_, _, ?_, aA [1, 2, 3, 4, 6, 7, 9, 10, 11, 12, 13, 53], a + 1, v2, w1 + 1, w2 + 1, RO ++ [(m.ot.getD (O.getD i 0).toNat []).getD a 0], by omega, by rw [ar, hRO]; rfl, rfl, ?_⟩
       · omega
       · rw [gh]; unfold sQ; rw [hA]; rfl)
   (try simp only [zB, reduceCtorEq] at hc36)
   have hnm : ¬ nmO m (d4 m (O.getD i 0) O a).1 (cAt m (m.nxt (O.getD i 0) (a : Int))) < 0 := by have h9 : 0 ≤ nmO m (d4 m (O.getD i 0) O a).1 (cAt m (m.nxt (O.getD i 0) (a : Int))) := hc36; omega
   have hA : mmA m (d4 m (O.getD i 0) O a).1 (m.nxt (O.getD i 0) (a : Int)) = (d4 m (O.getD i 0) O a).1 := if_neg hnm
   refine ay ?_
   apply k34; clear k34; refine kp [1, 2, 3, 4, 6, 7, 9, 10, 11, 12, 13, 14, 53, 59, 80] ?_
   refine ah fun _ k39 => ?_
   refine am hP hN rfl ?_
   iterate 11 (refine aj rfl fun _ k0 => ?_; simp only [zO, zT, acs, reduceCtorEq, aa, V, ad, ag, af, ae, Mly.av, ai, bH, hgn]; (repeat refine an ?_); (try refine .inl ?_); apply k0; clear k0; simp only [zP, V])
   refine ao ?_
   apply k39; clear k39; refine kp [1, 2, 3, 4, 6, 7, 9, 10, 11, 12, 13, 14, 53, 59, 80] ?_
   have q2 := hm.ql (O.getD i 0).toNat (by omega)
   have hgx2 : ((d4 m (O.getD i 0) O a).1 ++ [((m.nx.getD (O.getD i 0).toNat []).getD a 0)]).getD i 0 = (O.getD i 0) := (lF hil2).trans hgx
   refine bu hP hN Try.mixed rfl ?_
   iterate 15 (refine aj rfl fun _ k0 => ?_; simp only [zO, zT, acs, reduceCtorEq, aa, V, ad, ag, af, ae, Mly.av, ai, bH, hgx, hgx2, ar]; (repeat refine an ?_); (try refine .inl ?_); apply k0; clear k0; simp only [zP, V])
   refine ao ?_
   refine ⟨by kernel_rfl, ?_⟩
   apply k32; clear k32; refine kp [1, 2, 3, 4, 6, 7, 9, 10, 11, 12, 13, 14, 53, 59, 80] ?_
   refine am hP hN rfl ?_
   iterate 3 (refine aj rfl fun _ k0 => ?_; simp only [zO, zT, acs, reduceCtorEq, aa, V, ad, ag, af, ae, Mly.av, ai, bH]; (repeat refine an ?_); (try refine .inl ?_); apply k0; clear k0; simp only [zP, V])
   refine ao ?_
   first
   | (refine ⟨_, _, ?_, aA [1, 2, 3, 4, 6, 7, 9, 10, 11, 12, 13, 53], a + 1, v2 + 1, w1 + 1, w2 + 1, RO ++ [(m.ot.getD (O.getD i 0).toNat []).getD a 0], by omega, by rw [ar, hRO]; rfl, rfl, ?_⟩
      · omega
      · rw [gh]; unfold sQ; rw [hA]; rfl)
   | (refine ⟨_, _, ?_, aA [1, 2, 3, 4, 6, 7, 9, 10, 11, 12, 13, 53], a + 1, v2, w1 + 1, w2 + 1, RO ++ [(m.ot.getD (O.getD i 0).toNat []).getD a 0], by omega, by rw [ar, hRO]; rfl, rfl, ?_⟩
      · omega
      · rw [gh]; unfold sQ; rw [hA]; rfl)
  (try simp only [zB, reduceCtorEq] at hc31)
  have hae : m.inp.toNat = a := by omega
  refine aZ ?_
  apply k26; clear k26; refine kp [1, 2, 3, 4, 6, 7, 9, 10, 11, 12, 13, 53, 59] ?_
  refine ah fun _ k40 => ?_
  refine dn 7 rfl ?_; simp only [aJ, bz, zS, aa, and_self, and_true, true_and, and_false, false_and, if_true, if_false, eq_self, reduceCtorEq, Nat.one_ne_zero, Nat.zero_ne_one]
  refine am hP hN rfl ?_
  iterate 7 (refine aj rfl fun _ k0 => ?_; simp only [zO, zT, acs, reduceCtorEq, aa, V, ad, ag, af, ae, Mly.av, ai, bH]; (repeat refine an ?_); (try refine .inl ?_); apply k0; clear k0; simp only [zP, V])
  refine ao ?_
  apply k40; clear k40; refine kp [1, 2, 3, 4, 6, 7, 9, 10, 11, 12, 13, 53, 59] ?_
  refine dn 8 rfl ?_; simp only [aJ, bz, zS, aa, and_self, and_true, true_and, and_false, false_and, if_true, if_false, eq_self, reduceCtorEq, Nat.one_ne_zero, Nat.zero_ne_one]
  refine am hP hN rfl ?_
  iterate 7 (refine aj rfl fun _ k0 => ?_; simp only [zO, zT, acs, reduceCtorEq, aa, V, ad, ag, af, ae, Mly.av, ai, bH]; (repeat refine an ?_); (try refine .inl ?_); apply k0; clear k0; simp only [zP, V])
  refine ao ?_
  apply k24; clear k24; refine kp [1, 2, 3, 4, 6, 7, 9, 10, 11, 12, 13, 53, 59] ?_
  refine dh [1, 2, 3, 4, 6, 7, 9, 10] ?_
  simp only [cJ, lkp, zE, reduceCtorEq, aa]
  refine d8 (n := 8) (L1 := [_, _, _, _, _, _, _, _]) rfl rfl (by rw [hB]; decide) rfl rfl ?_
  refine d8 (n := 7) (L1 := [_, _, _, _, _, _, _]) rfl rfl (by rw [hB]; decide) rfl rfl ?_
  obtain ⟨hR1, hR2, rr, hR3⟩ := kN hm hxr hO a (by omega)
  have hRl := hR1.len
  have hil2 : i < (d4 m (O.getD i 0) O a).1.length := by rw [hR3, ar]; omega
  refine am hP hN rfl ?_
  iterate 3 (refine aj rfl fun _ k0 => ?_; simp only [zO, zT, acs, reduceCtorEq, aa, V, ad, ag, af, ae, Mly.av, ai, bH]; (repeat refine an ?_); (try refine .inl ?_); apply k0; clear k0; simp only [zP, V])
  refine ao ?_
  refine ⟨_, _, ?_, aA [1, 2, 3, 4, 6, 7, 9, 10], i + 1, v2, y + 1, z + 1, (d4 m (O.getD i 0) O a).1, RX ++ [(d4 m (O.getD i 0) O a).2], RY ++ [RO], by omega, hR1, ⟨by rw [ar, hRl0.1]; rfl, by rw [ar, hRl0.2]; rfl⟩, ?_, rfl, rfl⟩
  · omega
  · rw [← hgo, show m.nx.length + 1 - i = (m.nx.length + 1 - (i + 1)) + 1 by omega, qL hil, hae]
 (try simp only [zB, reduceCtorEq] at hc23)
 have hie : i = O.length := by omega
 have hfin := sK (m := m) (f := m.nx.length + 1 - i) (i := i) (p := (O, RX)) (by show ¬ i < O.length; omega)
 have hRX : RX = (mmF m).2 := by rw [← hgo, hfin]
 refine aZ ?_
 apply k18; clear k18; refine kp [1, 2, 3, 4, 6, 7, 9, 10, 53] ?_
 refine ah fun _ k41 => ?_
 refine jX 5 4 rfl rfl ?_; simp only [aJ, bz, frC, zS, aa, and_self, and_true, true_and, and_false, false_and, if_true, if_false, eq_self, reduceCtorEq, Nat.one_ne_zero, Nat.zero_ne_one]
 refine jX 6 4 rfl rfl ?_; simp only [aJ, bz, frC, zS, aa, and_self, and_true, true_and, and_false, false_and, if_true, if_false, eq_self, reduceCtorEq, Nat.one_ne_zero, Nat.zero_ne_one]
 refine am hP hN rfl ?_
 iterate 3 (refine aj rfl fun _ k0 => ?_; simp only [zO, zT, acs, reduceCtorEq, aa, V, ad, ag, af, ae, Mly.av, ai, bH]; (repeat refine an ?_); (try refine .inl ?_); apply k0; clear k0; simp only [zP, V])
 refine ao ?_
 apply k41; clear k41; refine kp [1, 2, 3, 4, 6, 7, 9, 10, 53] ?_
 refine aE ?_
 refine ⟨nr, _, rfl, ?_⟩; simp only [zF, zP, aa, V, Mly.av, ai, bH]
 first
 | (rw [if_neg hv]; exact bE ⟨dM ⟨.refl _, .refl _, bo rfl, bo rfl, trivial⟩, aF (.refl _), trivial⟩)
 | (rw [if_pos hv, hv, ← hRX]; exact bE ⟨dM ⟨.refl _, .refl _, .refl _, fun C L σ w u hu => ⟨hu.1, trivial⟩, trivial⟩, aF (.refl _), trivial⟩)
theorem Bc (m : Mly) (hv : aL m = 0) : cb Try.prog 63 [m.av] (.tup [.agg [.int .i64 m.inp, .int .i64 0, .list (.list (.int .i64)) (mmF m).2, .junk], .one (.int .i64 0)]) := by
  have h := ul m
  rw [if_pos hv, hv] at h; exact h
theorem BN (m : Mly) (hv : ¬ aL m = 0) : cb Try.prog 63 [m.av] (.tup [Mly.av ⟨0, 0, [], []⟩, .one (.int .i64 (aL m))]) := by
  have h := ul m
  rw [if_neg hv] at h; exact h
theorem wk (m : Mly) (hv : aL m = 0) : cb Try.prog 44 [m.av] (.one (.bool (mmB m))) := by
 refine aT Try.func44 rfl (by kernel_rfl) (Nat.le_of_ble_eq_true rfl) rfl fun C hP hN hB => ?_
 replace hN : C.N = 21 := hN
 simp only [bc, V]
 refine ah fun _ k1 => ?_
 refine am hP hN rfl ?_
 iterate 2 (refine aj rfl fun _ k0 => ?_; simp only [zO, zT, acs, reduceCtorEq, aa, V, ad, ag, af, ae, Mly.av, ai]; (repeat refine an ?_); (try refine .inl ?_); apply k0; clear k0; simp only [zP, V])
 refine ao ?_
 apply k1; clear k1; refine kp [0, 1, 2] ?_
 refine ah fun _ k2 => ?_
 refine am hP hN rfl ?_
 (refine aj rfl fun _ k0 => ?_; simp only [zO, zT, acs, reduceCtorEq, aa, V, ad, ag, af, ae, Mly.av, ai]; (repeat refine an ?_); (try refine .inl ?_); apply k0; clear k0; simp only [zP, V])
 refine aj rfl fun _ k0 => ?_
 refine aK (h := aC (Bc m hv)) rfl rfl (by first | exact rfl | (simp only [ev, zP, aa, V]; exact rfl)) (by simp only [zV, acs, reduceCtorEq, aa, V, ad, ag, af, ae, Mly.av, ai]) ?_
 apply k0; clear k0; simp only [zP, V]
 iterate 6 (refine aj rfl fun _ k0 => ?_; simp only [zO, zT, acs, reduceCtorEq, aa, V, ad, ag, af, ae, Mly.av, ai]; (repeat refine an ?_); (try refine .inl ?_); apply k0; clear k0; simp only [zP, V])
 refine ao ?_
 apply k2; clear k2; refine kp [0, 1, 2, 3, 4] ?_
 refine ah fun _ k3 => ?_
 refine am hP hN rfl ?_
 iterate 3 (refine aj rfl fun _ k0 => ?_; simp only [zO, zT, acs, reduceCtorEq, aa, V, ad, ag, af, ae, Mly.av, ai]; (repeat refine an ?_); (try refine .inl ?_); apply k0; clear k0; simp only [zP, V])
 refine' aR (want := true) 7 rfl (m := 12) (by simp only [zP, aa, V]; exact rfl) (by kernel_rfl) rfl rfl rfl rfl rfl (fun hg4 => ?a4) ?b4 ?c4
 case a4 =>
  have hq4 := hg4; (try simp only [zB, reduceCtorEq] at hg4); simp only [zE]
  iterate 7 (refine bp rfl fun _ k0 => ?_; simp only [zO, zT, acs, reduceCtorEq, aa, V, ad, ag, af, ae, Mly.av, ai]; (repeat refine an ?_); (try refine .inl ?_); apply k0; clear k0; simp only [zP, V])
  (refine aj rfl fun _ k0 => ?_; simp only [zO, zT, acs, reduceCtorEq, aa, V, ad, ag, af, ae, Mly.av, ai]; (repeat refine an ?_); (try refine .inl ?_); apply k0; clear k0; simp only [zP, V])
  refine ao ?_
  refine ⟨by simp only [zP, aa, V]; exact rfl, rfl, ?_, rfl⟩; (repeat refine aS rfl ?_); exact bB (by exact rfl) hq4
 case b4 => exact cD
 simp only [bh, aY]
 (refine aj rfl fun _ k0 => ?_; simp only [zO, zT, acs, reduceCtorEq, aa, V, ad, ag, af, ae, Mly.av, ai]; (repeat refine an ?_); (try refine .inl ?_); apply k0; clear k0; simp only [zP, V])
 refine ao ?_
 apply k3; clear k3; refine kp [0, 1, 2, 3, 4] ?_
 refine aE ?_
 refine ⟨nr, _, rfl, ?_⟩; simp only [zF, zP, aa, V, Mly.av, ai]
 refine VLE.of_eq ?_
 refine congrArg (fun b => AV.one (AC.bool b)) ?_
 unfold mmB
 rw [decide_eq_true hv]
 simp
 try omega
theorem wK (m : Mly) (hv : ¬ aL m = 0) : cb Try.prog 44 [m.av] (.one (.bool (mmB m))) := by
 refine aT Try.func44 rfl (by kernel_rfl) (Nat.le_of_ble_eq_true rfl) rfl fun C hP hN hB => ?_
 replace hN : C.N = 21 := hN
 simp only [bc, V]
 refine ah fun _ k1 => ?_
 refine am hP hN rfl ?_
 iterate 2 (refine aj rfl fun _ k0 => ?_; simp only [zO, zT, acs, reduceCtorEq, aa, V, ad, ag, af, ae, Mly.av, ai]; (repeat refine an ?_); (try refine .inl ?_); apply k0; clear k0; simp only [zP, V])
 refine ao ?_
 apply k1; clear k1; refine kp [0, 1, 2] ?_
 refine ah fun _ k2 => ?_
 refine am hP hN rfl ?_
 (refine aj rfl fun _ k0 => ?_; simp only [zO, zT, acs, reduceCtorEq, aa, V, ad, ag, af, ae, Mly.av, ai]; (repeat refine an ?_); (try refine .inl ?_); apply k0; clear k0; simp only [zP, V])
 refine aj rfl fun _ k0 => ?_
 refine aK (h := aC (BN m hv)) rfl rfl (by first | exact rfl | (simp only [ev, zP, aa, V]; exact rfl)) (by simp only [zV, acs, reduceCtorEq, aa, V, ad, ag, af, ae, Mly.av, ai]) ?_
 apply k0; clear k0; simp only [zP, V]
 iterate 6 (refine aj rfl fun _ k0 => ?_; simp only [zO, zT, acs, reduceCtorEq, aa, V, ad, ag, af, ae, Mly.av, ai]; (repeat refine an ?_); (try refine .inl ?_); apply k0; clear k0; simp only [zP, V])
 refine ao ?_
 apply k2; clear k2; refine kp [0, 1, 2, 3, 4] ?_
 refine ah fun _ k3 => ?_
 refine am hP hN rfl ?_
 iterate 3 (refine aj rfl fun _ k0 => ?_; simp only [zO, zT, acs, reduceCtorEq, aa, V, ad, ag, af, ae, Mly.av, ai]; (repeat refine an ?_); (try refine .inl ?_); apply k0; clear k0; simp only [zP, V])
 refine' aR (want := true) 7 rfl (m := 12) (by simp only [zP, aa, V]; exact rfl) (by kernel_rfl) rfl rfl rfl rfl rfl (fun hg4 => ?a4) ?b4 ?c4
 case a4 =>
  have hq4 := hg4; (try simp only [zB, reduceCtorEq] at hg4); simp only [zE]
  iterate 7 (refine bp rfl fun _ k0 => ?_; simp only [zO, zT, acs, reduceCtorEq, aa, V, ad, ag, af, ae, Mly.av, ai]; (repeat refine an ?_); (try refine .inl ?_); apply k0; clear k0; simp only [zP, V])
  (refine aj rfl fun _ k0 => ?_; simp only [zO, zT, acs, reduceCtorEq, aa, V, ad, ag, af, ae, Mly.av, ai]; (repeat refine an ?_); (try refine .inl ?_); apply k0; clear k0; simp only [zP, V])
  refine ao ?_
  refine ⟨by simp only [zP, aa, V]; exact rfl, rfl, ?_, rfl⟩; (repeat refine aS rfl ?_); exact bB (by exact rfl) hq4
 case b4 => exact cD
 simp only [bh, aY]
 (refine aj rfl fun _ k0 => ?_; simp only [zO, zT, acs, reduceCtorEq, aa, V, ad, ag, af, ae, Mly.av, ai]; (repeat refine an ?_); (try refine .inl ?_); apply k0; clear k0; simp only [zP, V])
 refine ao ?_
 apply k3; clear k3; refine kp [0, 1, 2, 3, 4] ?_
 refine aE ?_
 refine ⟨nr, _, rfl, ?_⟩; simp only [zF, zP, aa, V, Mly.av, ai]
 refine VLE.of_eq ?_
 refine congrArg (fun b => AV.one (AC.bool b)) ?_
 unfold mmB
 rw [decide_eq_false hv]
 simp [hv]
theorem yQ (m : Mly) : cb Try.prog 44 [m.av] (.one (.bool (mmB m))) := by
  by_cases hv : aL m = 0
  · exact wk m hv
  · exact wK m hv
theorem yk (m : Mly) : cb Try.prog 25 [m.av] (.one (.int .i64 (js m))) := by
 refine aT Try.func25 rfl (by kernel_rfl) (Nat.le_of_ble_eq_true rfl) rfl fun C hP hN hB => ?_
 replace hN : C.N = 12 := hN
 simp only [bc, V]
 refine ah fun _ k1 => ?_
 refine am hP hN rfl ?_
 iterate 2 (refine aj rfl fun _ k0 => ?_; simp only [zO, zT, acs, reduceCtorEq, aa, V, ad, ag, af, ae, Mly.av]; (repeat refine an ?_); (try refine .inl ?_); apply k0; clear k0; simp only [zP, V])
 refine ao ?_
 apply k1; clear k1; refine kp [0, 1, 2] ?_
 refine ah fun _ k2 => ?_
 refine ah fun _ k3 => ?_
 refine am hP hN rfl ?_
 (refine aj rfl fun _ k0 => ?_; simp only [zO, zT, acs, reduceCtorEq, aa, V, ad, ag, af, ae, Mly.av]; (repeat refine an ?_); (try refine .inl ?_); apply k0; clear k0; simp only [zP, V])
 refine aj rfl fun _ k0 => ?_
 refine aK (h := aC (ss m)) rfl rfl (by first | exact rfl | (simp only [ev, zP, aa, V]; exact rfl)) (by simp only [zV, acs, reduceCtorEq, aa, V, ad, ag, af, ae, Mly.av]) ?_
 apply k0; clear k0; simp only [zP, V]
 (refine aj rfl fun _ k0 => ?_; simp only [zO, zT, acs, reduceCtorEq, aa, V, ad, ag, af, ae, Mly.av]; (repeat refine an ?_); (try refine .inl ?_); apply k0; clear k0; simp only [zP, V])
 refine ao ?_
 apply k3; clear k3; refine kp [0, 1, 2, 3] ?_
 refine ah fun _ k4 => ?_
 refine am hP hN rfl ?_
 iterate 2 (refine aj rfl fun _ k0 => ?_; simp only [zO, zT, acs, reduceCtorEq, aa, V, ad, ag, af, ae, Mly.av]; (repeat refine an ?_); (try refine .inl ?_); apply k0; clear k0; simp only [zP, V])
 refine ao ?_
 apply k4; clear k4; refine kp [0, 1, 2, 3, 7] ?_
 refine cd (fun hc5 => ?_) (fun hc5 => ?_)
 ·(try simp only [zB, reduceCtorEq] at hc5)
  refine ah fun _ k6 => ?_
  refine am hP hN rfl ?_
  iterate 2 (refine aj rfl fun _ k0 => ?_; simp only [zO, zT, acs, reduceCtorEq, aa, V, ad, ag, af, ae, Mly.av]; (repeat refine an ?_); (try refine .inl ?_); apply k0; clear k0; simp only [zP, V])
  refine ao ?_
  apply k6; clear k6; refine kp [0, 1, 2, 3, 7] ?_
  refine aE ?_
  refine ⟨nr, _, rfl, ?_⟩; simp only [zF, zP, aa, V, Mly.av]
  refine VLE.of_eq ?_
  refine congrArg (fun n => AV.one (AC.int IntKind.i64 n)) ?_
  unfold js
  symm
  first
  | (rw [if_pos (by omega)]; done)
  | (rw [if_neg (by omega), if_neg (by simp_all)]; done)
  | (rw [if_neg (by omega), if_pos (by simp_all)]; done)
 (try simp only [zB, reduceCtorEq] at hc5)
 refine ay ?_
 apply k2; clear k2; refine kp [0, 1, 2, 3, 7] ?_
 refine ah fun _ k7 => ?_
 refine ah fun _ k8 => ?_
 refine am hP hN rfl ?_
 (refine aj rfl fun _ k0 => ?_; simp only [zO, zT, acs, reduceCtorEq, aa, V, ad, ag, af, ae, Mly.av]; (repeat refine an ?_); (try refine .inl ?_); apply k0; clear k0; simp only [zP, V])
 refine aj rfl fun _ k0 => ?_
 refine aK (h := aC (yQ m)) rfl rfl (by first | exact rfl | (simp only [ev, zP, aa, V]; exact rfl)) (by simp only [zV, acs, reduceCtorEq, aa, V, ad, ag, af, ae, Mly.av]) ?_
 apply k0; clear k0; simp only [zP, V]
 (refine aj rfl fun _ k0 => ?_; simp only [zO, zT, acs, reduceCtorEq, aa, V, ad, ag, af, ae, Mly.av]; (repeat refine an ?_); (try refine .inl ?_); apply k0; clear k0; simp only [zP, V])
 refine ao ?_
 apply k8; clear k8; refine kp [0, 1, 2, 3, 7, 11] ?_
 refine cd (fun hc9 => ?_) (fun hc9 => ?_)
 ·(try simp only [zB, reduceCtorEq] at hc9)
  refine ah fun _ k10 => ?_
  refine am hP hN rfl ?_
  (refine aj rfl fun _ k0 => ?_; simp only [zO, zT, acs, reduceCtorEq, aa, V, ad, ag, af, ae, Mly.av]; (repeat refine an ?_); (try refine .inl ?_); apply k0; clear k0; simp only [zP, V])
  refine ao ?_
  apply k10; clear k10; refine kp [0, 1, 2, 3, 7, 11] ?_
  refine aE ?_
  refine ⟨nr, _, rfl, ?_⟩; simp only [zF, zP, aa, V, Mly.av]
  refine VLE.of_eq ?_
  refine congrArg (fun n => AV.one (AC.int IntKind.i64 n)) ?_
  unfold js
  symm
  first
  | (rw [if_pos (by omega)]; done)
  | (rw [if_neg (by omega), if_neg (by simp_all)]; done)
  | (rw [if_neg (by omega), if_pos (by simp_all)]; done)
 (try simp only [zB, reduceCtorEq] at hc9)
 refine ay ?_
 apply k7; clear k7; refine kp [0, 1, 2, 3, 7, 11] ?_
 refine ah fun _ k11 => ?_
 refine am hP hN rfl ?_
 (refine aj rfl fun _ k0 => ?_; simp only [zO, zT, acs, reduceCtorEq, aa, V, ad, ag, af, ae, Mly.av]; (repeat refine an ?_); (try refine .inl ?_); apply k0; clear k0; simp only [zP, V])
 refine ao ?_
 apply k11; clear k11; refine kp [0, 1, 2, 3, 7, 11] ?_
 refine aE ?_
 refine ⟨nr, _, rfl, ?_⟩; simp only [zF, zP, aa, V, Mly.av]
 refine VLE.of_eq ?_
 refine congrArg (fun n => AV.one (AC.int IntKind.i64 n)) ?_
 unfold js
 symm
 first
 | (rw [if_pos (by omega)]; done)
 | (rw [if_neg (by omega), if_neg (by simp_all)]; done)
 | (rw [if_neg (by omega), if_pos (by simp_all)]; done)
set_option maxHeartbeats 1000000 in
theorem wj (m : Mly) : cb Try.prog 31 [m.av] (.one (.bool (je m))) := by
 refine aT Try.func31 rfl (by kernel_rfl) (Nat.le_of_ble_eq_true rfl) rfl fun C hP hN hB => ?_
 replace hN : C.N = 48 := hN
 simp only [bc, V]
 refine ah fun _ k1 => ?_
 refine am hP hN rfl ?_
 iterate 2 (refine aj rfl fun _ k0 => ?_; simp only [zO, zT, acs, reduceCtorEq, aa, V, ad, ag, af, ae, Mly.av, ai]; (repeat refine an ?_); (try refine .inl ?_); apply k0; clear k0; simp only [zP, V])
 refine ao ?_
 apply k1; clear k1; refine kp [0, 1, 2] ?_
 refine ah fun _ k2 => ?_
 refine ah fun _ k3 => ?_
 refine am hP hN rfl ?_
 iterate 5 (refine aj rfl fun _ k0 => ?_; simp only [zO, zT, acs, reduceCtorEq, aa, V, ad, ag, af, ae, Mly.av, ai]; (repeat refine an ?_); (try refine .inl ?_); apply k0; clear k0; simp only [zP, V])
 refine' aR (want := false) 4 rfl (m := 9) (by simp only [zP, aa, V]; exact rfl) (by kernel_rfl) rfl rfl rfl rfl rfl (fun hg4 => ?a4) ?b4 ?c4
 case a4 =>
  have hq4 := hg4; (try simp only [zB, reduceCtorEq] at hg4); simp only [zE]
  iterate 4 (refine bp rfl fun _ k0 => ?_; simp only [zO, zT, acs, reduceCtorEq, aa, V, ad, ag, af, ae, Mly.av, ai]; (repeat refine an ?_); (try refine .inl ?_); apply k0; clear k0; simp only [zP, V])
  (refine aj rfl fun _ k0 => ?_; simp only [zO, zT, acs, reduceCtorEq, aa, V, ad, ag, af, ae, Mly.av, ai]; (repeat refine an ?_); (try refine .inl ?_); apply k0; clear k0; simp only [zP, V])
  refine ao ?_
  refine ⟨by simp only [zP, aa, V]; exact rfl, rfl, ?_, rfl⟩; (repeat refine aS rfl ?_); exact bB (by exact rfl) hq4
 case b4 => exact cD
 simp only [bh, aY]
 (refine aj rfl fun _ k0 => ?_; simp only [zO, zT, acs, reduceCtorEq, aa, V, ad, ag, af, ae, Mly.av, ai]; (repeat refine an ?_); (try refine .inl ?_); apply k0; clear k0; simp only [zP, V])
 refine' aR (want := false) 3 rfl (m := 15) (by simp only [zP, aa, V]; exact rfl) (by kernel_rfl) rfl rfl rfl rfl rfl (fun hg5 => ?a5) ?b5 ?c5
 case a5 =>
  have hq5 := hg5; (try simp only [zB, reduceCtorEq] at hg5); simp only [zE]
  iterate 3 (refine bp rfl fun _ k0 => ?_; simp only [zO, zT, acs, reduceCtorEq, aa, V, ad, ag, af, ae, Mly.av, ai]; (repeat refine an ?_); (try refine .inl ?_); apply k0; clear k0; simp only [zP, V])
  (refine aj rfl fun _ k0 => ?_; simp only [zO, zT, acs, reduceCtorEq, aa, V, ad, ag, af, ae, Mly.av, ai]; (repeat refine an ?_); (try refine .inl ?_); apply k0; clear k0; simp only [zP, V])
  refine ao ?_
  refine ⟨by simp only [zP, aa, V]; exact rfl, rfl, ?_, rfl⟩; (repeat refine aS rfl ?_); exact bB (by exact rfl) hq5
 case b5 => exact cD
 simp only [bh, aY]
 refine ao ?_
 apply k3; clear k3; refine kp [0, 1, 2, 19] ?_
 refine cd (fun hc6 => ?_) (fun hc6 => ?_)
 ·(try simp only [zB, reduceCtorEq] at hc6)
  have hg : je m = true := BD (Or.elim hc6 (fun h9 => .inl (Or.elim h9 (fun h8 => .inl (by have h7 : (12 : Int) < (m.nx.length : Int) := h8; omega)) (fun h8 => .inr (by have h7 : (12 : Int) < (m.ot.length : Int) := h8; omega)))) (fun h9 => .inr h9))
  refine ah fun _ k7 => ?_
  refine am hP hN rfl ?_
  (refine aj rfl fun _ k0 => ?_; simp only [zO, zT, acs, reduceCtorEq, aa, V, ad, ag, af, ae, Mly.av, ai]; (repeat refine an ?_); (try refine .inl ?_); apply k0; clear k0; simp only [zP, V])
  refine ao ?_
  apply k7; clear k7; refine kp [0, 1, 2, 19] ?_
  refine aE ?_
  refine ⟨nr, _, rfl, ?_⟩; simp only [zF, zP, aa, V, Mly.av, ai]
  refine VLE.of_eq ?_
  refine congrArg (fun b => AV.one (AC.bool b)) ?_
  symm
  first
  | exact hg
  | exact oU hg0 hqN (fun q h => hqo q (by omega))
 (try simp only [zB, reduceCtorEq] at hc6)
 have hg0 : ¬ ((12 < m.nx.length ∨ 12 < m.ot.length) ∨ 6 < m.inp) := by
   have h7 : (m.nx.length : Int) ≤ 12 := hc6.1.1
   have h8 : (m.ot.length : Int) ≤ 12 := hc6.1.2
   have h9 : m.inp ≤ 6 := hc6.2
   omega
 refine ay ?_
 apply k2; clear k2; refine kp [0, 1, 2, 19] ?_
 refine ah fun _ k8 => ?_
 refine ah fun _ k9 => ?_
 refine am hP hN rfl ?_
 iterate 4 (refine aj rfl fun _ k0 => ?_; simp only [zO, zT, acs, reduceCtorEq, aa, V, ad, ag, af, ae, Mly.av, ai]; (repeat refine an ?_); (try refine .inl ?_); apply k0; clear k0; simp only [zP, V])
 refine ao ?_
 apply k9; clear k9; refine kp [0, 1, 2, 19, 22, 23] ?_
 refine aD ?_
 refine bn (fun n10 s10 => ∃ (k : Nat), (k ≤ m.nx.length) ∧ (∀ q, q < k → (m.nx.getD q []).length ≤ 12) ∧ n10 = m.nx.length - k ∧ s10 = { env := [(1, .one (.ptr 0 0 0 0)), (2, .one (.bool false)), (22, .one (.int .i64 (m.nx.length : Int))), (23, .one (.int .i64 (k : Int)))], L := [.vars 24 [.int .i64 m.inp, .int .i64 m.st, .list (.list (.int .i64)) m.nx, .list (.list (.int .i64)) m.ot]] }) ?_ ?_
 ·exact ⟨_, _, aA [1, 2, 22, 23], 0, Nat.zero_le _, fun q h => by omega, rfl, rfl⟩
 rintro n10 s10 ⟨k, hkn, hqn, rfl, rfl⟩
 refine ah fun _ k11 => ?_
 refine am hP hN rfl ?_
 (refine aj rfl fun _ k0 => ?_; simp only [zO, zT, acs, reduceCtorEq, aa, V, ad, ag, af, ae, Mly.av, ai]; (repeat refine an ?_); (try refine .inl ?_); apply k0; clear k0; simp only [zP, V])
 refine ao ?_
 apply k11; clear k11; refine kp [1, 2, 22, 23, 24] ?_
 refine ah fun _ k12 => ?_
 refine cd (fun hc13 => ?_) (fun hc13 => ?_)
 ·(try simp only [zB, reduceCtorEq] at hc13)
  refine ay ?_
  apply k12; clear k12; refine kp [1, 2, 22, 23, 24] ?_
  refine ah fun _ k14 => ?_
  refine aD ?_
  refine ah fun _ k15 => ?_
  refine am hP hN rfl ?_
  iterate 2 (refine aj rfl fun _ k0 => ?_; simp only [zO, zT, acs, reduceCtorEq, aa, V, ad, ag, af, ae, Mly.av, ai]; (repeat refine an ?_); (try refine .inl ?_); apply k0; clear k0; simp only [zP, V])
  refine ao ?_
  apply k15; clear k15; refine kp [1, 2, 3, 22, 23, 24] ?_
  refine ah fun _ k16 => ?_
  refine am hP hN rfl ?_
  iterate 7 (refine aj rfl fun _ k0 => ?_; simp only [zO, zT, acs, reduceCtorEq, aa, V, ad, ag, af, ae, Mly.av, ai]; (repeat refine an ?_); (try refine .inl ?_); apply k0; clear k0; simp only [zP, V])
  refine ao ?_
  apply k16; clear k16; refine kp [1, 2, 3, 22, 23, 24, 32] ?_
  refine cd (fun hc17 => ?_) (fun hc17 => ?_)
  ·(try simp only [zB, reduceCtorEq] at hc17)
   have hg : je m = true := Bd (k := k) (by omega) (by have h7 : (12 : Int) < ((m.nx.getD k []).length : Int) := hc17; omega)
   refine ah fun _ k18 => ?_
   refine am hP hN rfl ?_
   (refine aj rfl fun _ k0 => ?_; simp only [zO, zT, acs, reduceCtorEq, aa, V, ad, ag, af, ae, Mly.av, ai]; (repeat refine an ?_); (try refine .inl ?_); apply k0; clear k0; simp only [zP, V])
   refine ao ?_
   apply k18; clear k18; refine kp [1, 2, 3, 22, 23, 24, 32] ?_
   refine aE ?_
   refine ⟨nr, _, rfl, ?_⟩; simp only [zF, zP, aa, V, Mly.av, ai]
   refine VLE.of_eq ?_
   refine congrArg (fun b => AV.one (AC.bool b)) ?_
   symm
   first
   | exact hg
   | exact oU hg0 hqN (fun q h => hqo q (by omega))
  (try simp only [zB, reduceCtorEq] at hc17)
  have hrow : (m.nx.getD k []).length ≤ 12 := by have h7 : ((m.nx.getD k []).length : Int) ≤ 12 := hc17; omega
  refine ay ?_
  apply k14; clear k14; refine kp [1, 2, 3, 22, 23, 24, 32] ?_
  refine am hP hN rfl ?_
  iterate 2 (refine aj rfl fun _ k0 => ?_; simp only [zO, zT, acs, reduceCtorEq, aa, V, ad, ag, af, ae, Mly.av, ai]; (repeat refine an ?_); (try refine .inl ?_); apply k0; clear k0; simp only [zP, V])
  refine ao ?_
  refine ⟨_, _, ?_, aA [1, 2, 22, 23], k + 1, by omega, fun q h => ?_, rfl, rfl⟩
  · omega
  · by_cases e : q = k
    · rw [e]; exact hrow
    · exact hqn q (by omega)
 (try simp only [zB, reduceCtorEq] at hc13)
 refine aZ ?_
 apply k8; clear k8; refine kp [1, 2, 22, 23, 24] ?_
 refine ah fun _ k19 => ?_
 refine ah fun _ k20 => ?_
 have hqN : ∀ q, q < m.nx.length → (m.nx.getD q []).length ≤ 12 := fun q h => hqn q (by omega)
 have hkn9 := hkn
 clear hqn
 refine am hP hN rfl ?_
 iterate 4 (refine aj rfl fun _ k0 => ?_; simp only [zO, zT, acs, reduceCtorEq, aa, V, ad, ag, af, ae, Mly.av, ai]; (repeat refine an ?_); (try refine .inl ?_); apply k0; clear k0; simp only [zP, V])
 refine ao ?_
 apply k20; clear k20; refine kp [1, 2, 22, 23, 24, 36, 37] ?_
 refine aD ?_
 refine bn (fun n21 s21 => ∃ (k : Nat), (k ≤ m.ot.length) ∧ (∀ q, q < k → (m.ot.getD q []).length ≤ 12) ∧ n21 = m.ot.length - k ∧ s21 = { env := [(1, .one (.ptr 0 0 0 0)), (2, .one (.bool false)), (36, .one (.int .i64 (m.ot.length : Int))), (37, .one (.int .i64 (k : Int)))], L := [.vars 24 [.int .i64 m.inp, .int .i64 m.st, .list (.list (.int .i64)) m.nx, .list (.list (.int .i64)) m.ot]] }) ?_ ?_
 ·exact ⟨_, _, aA [1, 2, 36, 37], 0, Nat.zero_le _, fun q h => by omega, rfl, rfl⟩
 rintro n21 s21 ⟨k, hko, hqo, rfl, rfl⟩
 refine ah fun _ k22 => ?_
 refine am hP hN rfl ?_
 (refine aj rfl fun _ k0 => ?_; simp only [zO, zT, acs, reduceCtorEq, aa, V, ad, ag, af, ae, Mly.av, ai]; (repeat refine an ?_); (try refine .inl ?_); apply k0; clear k0; simp only [zP, V])
 refine ao ?_
 apply k22; clear k22; refine kp [1, 2, 36, 37, 38] ?_
 refine ah fun _ k23 => ?_
 refine cd (fun hc24 => ?_) (fun hc24 => ?_)
 ·(try simp only [zB, reduceCtorEq] at hc24)
  refine ay ?_
  apply k23; clear k23; refine kp [1, 2, 36, 37, 38] ?_
  refine ah fun _ k25 => ?_
  refine aD ?_
  refine ah fun _ k26 => ?_
  refine am hP hN rfl ?_
  iterate 2 (refine aj rfl fun _ k0 => ?_; simp only [zO, zT, acs, reduceCtorEq, aa, V, ad, ag, af, ae, Mly.av, ai]; (repeat refine an ?_); (try refine .inl ?_); apply k0; clear k0; simp only [zP, V])
  refine ao ?_
  apply k26; clear k26; refine kp [1, 2, 4, 36, 37, 38] ?_
  refine ah fun _ k27 => ?_
  refine am hP hN rfl ?_
  iterate 7 (refine aj rfl fun _ k0 => ?_; simp only [zO, zT, acs, reduceCtorEq, aa, V, ad, ag, af, ae, Mly.av, ai]; (repeat refine an ?_); (try refine .inl ?_); apply k0; clear k0; simp only [zP, V])
  refine ao ?_
  apply k27; clear k27; refine kp [1, 2, 4, 36, 37, 38, 46] ?_
  refine cd (fun hc28 => ?_) (fun hc28 => ?_)
  ·(try simp only [zB, reduceCtorEq] at hc28)
   have hg : je m = true := BY (k := k) (by omega) (by have h7 : (12 : Int) < ((m.ot.getD k []).length : Int) := hc28; omega)
   refine ah fun _ k29 => ?_
   refine am hP hN rfl ?_
   (refine aj rfl fun _ k0 => ?_; simp only [zO, zT, acs, reduceCtorEq, aa, V, ad, ag, af, ae, Mly.av, ai]; (repeat refine an ?_); (try refine .inl ?_); apply k0; clear k0; simp only [zP, V])
   refine ao ?_
   apply k29; clear k29; refine kp [1, 2, 4, 36, 37, 38, 46] ?_
   refine aE ?_
   refine ⟨nr, _, rfl, ?_⟩; simp only [zF, zP, aa, V, Mly.av, ai]
   refine VLE.of_eq ?_
   refine congrArg (fun b => AV.one (AC.bool b)) ?_
   symm
   first
   | exact hg
   | exact oU hg0 hqN (fun q h => hqo q (by omega))
  (try simp only [zB, reduceCtorEq] at hc28)
  have hrow : (m.ot.getD k []).length ≤ 12 := by have h7 : ((m.ot.getD k []).length : Int) ≤ 12 := hc28; omega
  refine ay ?_
  apply k25; clear k25; refine kp [1, 2, 4, 36, 37, 38, 46] ?_
  refine am hP hN rfl ?_
  iterate 2 (refine aj rfl fun _ k0 => ?_; simp only [zO, zT, acs, reduceCtorEq, aa, V, ad, ag, af, ae, Mly.av, ai]; (repeat refine an ?_); (try refine .inl ?_); apply k0; clear k0; simp only [zP, V])
  refine ao ?_
  refine ⟨_, _, ?_, aA [1, 2, 36, 37], k + 1, by omega, fun q h => ?_, rfl, rfl⟩
  · omega
  · by_cases e : q = k
    · rw [e]; exact hrow
    · exact hqo q (by omega)
 (try simp only [zB, reduceCtorEq] at hc24)
 refine aZ ?_
 apply k19; clear k19; refine kp [1, 2, 36, 37, 38] ?_
 refine ah fun _ k30 => ?_
 refine am hP hN rfl ?_
 (refine aj rfl fun _ k0 => ?_; simp only [zO, zT, acs, reduceCtorEq, aa, V, ad, ag, af, ae, Mly.av, ai]; (repeat refine an ?_); (try refine .inl ?_); apply k0; clear k0; simp only [zP, V])
 refine ao ?_
 apply k30; clear k30; refine kp [1, 2, 36, 37, 38] ?_
 refine aE ?_
 refine ⟨nr, _, rfl, ?_⟩; simp only [zF, zP, aa, V, Mly.av, ai]
 refine VLE.of_eq ?_
 refine congrArg (fun b => AV.one (AC.bool b)) ?_
 symm
 first
 | exact hg
 | exact oU hg0 hqN (fun q h => hqo q (by omega))
theorem wN (m : Mly) : cb Try.prog 9 [m.av] (.one (.bool (v8 m))) := by
 refine aT Try.func9 rfl (by kernel_rfl) (Nat.le_of_ble_eq_true rfl) rfl fun C hP hN hB => ?_
 replace hN : C.N = 17 := hN
 simp only [bc, V]
 refine ah fun _ k1 => ?_
 refine am hP hN rfl ?_
 iterate 2 (refine aj rfl fun _ k0 => ?_; simp only [zO, zT, acs, reduceCtorEq, aa, V, ad, ag, af, ae, Mly.av]; (repeat refine an ?_); (try refine .inl ?_); apply k0; clear k0; simp only [zP, V])
 refine ao ?_
 apply k1; clear k1; refine kp [0, 1, 2] ?_
 refine ah fun _ k2 => ?_
 refine am hP hN rfl ?_
 (refine aj rfl fun _ k0 => ?_; simp only [zO, zT, acs, reduceCtorEq, aa, V, ad, ag, af, ae, Mly.av]; (repeat refine an ?_); (try refine .inl ?_); apply k0; clear k0; simp only [zP, V])
 refine aj rfl fun _ k0 => ?_
 refine aK (h := aC (wj m)) rfl rfl (by first | exact rfl | (simp only [ev, zP, aa, V]; exact rfl)) (by simp only [zV, acs, reduceCtorEq, aa, V, ad, ag, af, ae, Mly.av]) ?_
 apply k0; clear k0; simp only [zP, V]
 iterate 2 (refine aj rfl fun _ k0 => ?_; simp only [zO, zT, acs, reduceCtorEq, aa, V, ad, ag, af, ae, Mly.av]; (repeat refine an ?_); (try refine .inl ?_); apply k0; clear k0; simp only [zP, V])
 refine' aR (want := true) 4 rfl (m := 6) (by simp only [zP, aa, V]; exact rfl) (by kernel_rfl) rfl rfl rfl rfl rfl (fun hg3 => ?a3) ?b3 ?c3
 case a3 =>
  have hq3 := hg3; (try simp only [zB, reduceCtorEq] at hg3); simp only [zE]
  iterate 4 (refine bp rfl fun _ k0 => ?_; simp only [zO, zT, acs, reduceCtorEq, aa, V, ad, ag, af, ae, Mly.av]; (repeat refine an ?_); (try refine .inl ?_); apply k0; clear k0; simp only [zP, V])
  (refine aj rfl fun _ k0 => ?_; simp only [zO, zT, acs, reduceCtorEq, aa, V, ad, ag, af, ae, Mly.av]; (repeat refine an ?_); (try refine .inl ?_); apply k0; clear k0; simp only [zP, V])
  refine ao ?_
  refine ⟨by simp only [zP, aa, V]; exact rfl, rfl, ?_, rfl⟩; (repeat refine aS rfl ?_); exact bB (by exact rfl) hq3
 case b3 => exact cD
 simp only [bh, aY]
 (refine aj rfl fun _ k0 => ?_; simp only [zO, zT, acs, reduceCtorEq, aa, V, ad, ag, af, ae, Mly.av]; (repeat refine an ?_); (try refine .inl ?_); apply k0; clear k0; simp only [zP, V])
 refine' aR (want := true) 3 rfl (m := 12) (by simp only [zP, aa, V]; exact rfl) (by kernel_rfl) rfl rfl rfl rfl rfl (fun hg4 => ?a4) ?b4 ?c4
 case a4 =>
  have hq4 := hg4; (try simp only [zB, reduceCtorEq] at hg4); simp only [zE]
  iterate 3 (refine bp rfl fun _ k0 => ?_; simp only [zO, zT, acs, reduceCtorEq, aa, V, ad, ag, af, ae, Mly.av]; (repeat refine an ?_); (try refine .inl ?_); apply k0; clear k0; simp only [zP, V])
  (refine aj rfl fun _ k0 => ?_; simp only [zO, zT, acs, reduceCtorEq, aa, V, ad, ag, af, ae, Mly.av]; (repeat refine an ?_); (try refine .inl ?_); apply k0; clear k0; simp only [zP, V])
  refine ao ?_
  refine ⟨by simp only [zP, aa, V]; exact rfl, rfl, ?_, rfl⟩; (repeat refine aS rfl ?_); exact bB (by exact rfl) hq4
 case b4 => exact cD
 simp only [bh, aY]
 (refine aj rfl fun _ k0 => ?_; simp only [zO, zT, acs, reduceCtorEq, aa, V, ad, ag, af, ae, Mly.av]; (repeat refine an ?_); (try refine .inl ?_); apply k0; clear k0; simp only [zP, V])
 refine ao ?_
 apply k2; clear k2; refine kp [0, 1, 2] ?_
 refine aE ?_
 refine ⟨nr, _, rfl, ?_⟩; simp only [zF, zP, aa, V, Mly.av]
 refine VLE.of_eq ?_
 refine congrArg (fun b => AV.one (AC.bool b)) ?_
 unfold v8
 rw [show decide ((m.nx.length : Int) ≤ 8) = decide (m.nx.length ≤ 8) by rw [decide_eq_decide]; omega]
set_option maxHeartbeats 3000000 in
theorem BZ (m : Mly) : cb Try.prog 8 [m.av] (.one (.bool true)) := by
 refine aT Try.func8 rfl (by kernel_rfl) (Nat.le_of_ble_eq_true rfl) rfl fun C hP hN hB => ?_
 replace hN : C.N = 127 := hN
 simp only [bc, V]
 refine ah fun _ k1 => ?_
 refine am hP hN rfl ?_
 iterate 2 (refine aj rfl fun _ k0 => ?_; simp only [zO, zT, acs, reduceCtorEq, aa, V, ad, ag, af, ae, Mly.av, ai, az, aH]; (repeat refine an ?_); (try refine .inl ?_); apply k0; clear k0; simp only [zP, V])
 refine ao ?_
 apply k1; clear k1; refine kp [0, 1, 2] ?_
 refine ah fun _ k2 => ?_
 refine ah fun _ k3 => ?_
 refine am hP hN rfl ?_
 (refine aj rfl fun _ k0 => ?_; simp only [zO, zT, acs, reduceCtorEq, aa, V, ad, ag, af, ae, Mly.av, ai, az, aH]; (repeat refine an ?_); (try refine .inl ?_); apply k0; clear k0; simp only [zP, V])
 refine aj rfl fun _ k0 => ?_
 refine aK (h := aC (wN m)) rfl rfl (by first | exact rfl | (simp only [ev, zP, aa, V]; exact rfl)) (by simp only [zV, acs, reduceCtorEq, aa, V, ad, ag, af, ae, Mly.av, ai, az, aH]) ?_
 apply k0; clear k0; simp only [zP, V]
 iterate 2 (refine aj rfl fun _ k0 => ?_; simp only [zO, zT, acs, reduceCtorEq, aa, V, ad, ag, af, ae, Mly.av, ai, az, aH]; (repeat refine an ?_); (try refine .inl ?_); apply k0; clear k0; simp only [zP, V])
 refine' aR (want := false) 3 rfl (m := 26) (by simp only [zP, aa, V]; exact rfl) (by kernel_rfl) rfl rfl rfl rfl rfl (fun hg4 => ?a4) ?b4 ?c4
 case a4 =>
  have hq4 := hg4; (try simp only [zB, reduceCtorEq] at hg4); simp only [zE]
  (refine bp rfl fun _ k0 => ?_; simp only [zO, zT, acs, reduceCtorEq, aa, V, ad, ag, af, ae, Mly.av, ai, az, aH]; (repeat refine an ?_); (try refine .inl ?_); apply k0; clear k0; simp only [zP, V])
  refine bp rfl fun _ k0 => ?_
  refine aK (h := aC (yk m)) rfl rfl (by first | exact rfl | (simp only [ev, zP, aa, V]; exact rfl)) (by simp only [zV, acs, reduceCtorEq, aa, V, ad, ag, af, ae, Mly.av, ai, az, aH]) ?_
  apply k0; clear k0; simp only [zP, V]
  (refine bp rfl fun _ k0 => ?_; simp only [zO, zT, acs, reduceCtorEq, aa, V, ad, ag, af, ae, Mly.av, ai, az, aH]; (repeat refine an ?_); (try refine .inl ?_); apply k0; clear k0; simp only [zP, V])
  (refine aj rfl fun _ k0 => ?_; simp only [zO, zT, acs, reduceCtorEq, aa, V, ad, ag, af, ae, Mly.av, ai, az, aH]; (repeat refine an ?_); (try refine .inl ?_); apply k0; clear k0; simp only [zP, V])
  refine ao ?_
  refine ⟨by simp only [zP, aa, V]; exact rfl, rfl, ?_, rfl⟩; (repeat refine aS rfl ?_); exact bB (by exact rfl) hq4
 case b4 => exact cD
 simp only [bh, aY]
 refine ao ?_
 apply k3; clear k3; refine kp [0, 1, 2, 30] ?_
 refine cd (fun hc5 => ?_) (fun hc5 => ?_)
 ·(try simp only [zB, reduceCtorEq] at hc5)
  refine ah fun _ k6 => ?_
  refine am hP hN rfl ?_
  refine aj rfl fun _ k0 => ?_
  refine aK (h := aC xu) rfl rfl (by first | exact rfl | (simp only [ev, zP, aa, V]; exact rfl)) (by simp only [zV, acs, reduceCtorEq, aa, V, ad, ag, af, ae, Mly.av, ai, az, aH]) ?_
  apply k0; clear k0; simp only [zP, V]
  (refine aj rfl fun _ k0 => ?_; simp only [zO, zT, acs, reduceCtorEq, aa, V, ad, ag, af, ae, Mly.av, ai, az, aH]; (repeat refine an ?_); (try refine .inl ?_); apply k0; clear k0; simp only [zP, V])
  refine ao ?_
  apply k6; clear k6; refine kp [0, 1, 2, 30] ?_
  refine aE ?_
  refine ⟨nr, _, rfl, ?_⟩; simp only [zF, zP, aa, V, Mly.av, ai, az, aH]
  refine VLE.of_eq ?_
  rfl
 (try simp only [zB, reduceCtorEq] at hc5)
 have hk := By hc5.1 hc5.2
 have hn8 := hk.n8
 have hbl := (jg hk.ok hn8).1
 refine ay ?_
 apply k2; clear k2; refine kp [0, 1, 2, 30] ?_
 refine ah fun _ k7 => ?_
 refine am hP hN rfl ?_
 (refine aj rfl fun _ k0 => ?_; simp only [zO, zT, acs, reduceCtorEq, aa, V, ad, ag, af, ae, Mly.av, ai, az, aH]; (repeat refine an ?_); (try refine .inl ?_); apply k0; clear k0; simp only [zP, V])
 refine aj rfl fun _ k0 => ?_
 refine aK (h := aC (wZ m hk)) rfl rfl (by first | exact rfl | (simp only [ev, zP, aa, V]; exact rfl)) (by simp only [zV, acs, reduceCtorEq, aa, V, ad, ag, af, ae, Mly.av, ai, az, aH]) ?_
 apply k0; clear k0; simp only [zP, V]
 iterate 8 (refine aj rfl fun _ k0 => ?_; simp only [zO, zT, acs, reduceCtorEq, aa, V, ad, ag, af, ae, Mly.av, ai, az, aH]; (repeat refine an ?_); (try refine .inl ?_); apply k0; clear k0; simp only [zP, V])
 refine ao ?_
 apply k7; clear k7; refine kp [0, 1, 2, 3, 5, 30] ?_
 refine ah fun _ k8 => ?_
 refine ah fun _ k9 => ?_
 refine am hP hN rfl ?_
 iterate 2 (refine aj rfl fun _ k0 => ?_; simp only [zO, zT, acs, reduceCtorEq, aa, V, ad, ag, af, ae, Mly.av, ai, az, aH]; (repeat refine an ?_); (try refine .inl ?_); apply k0; clear k0; simp only [zP, V])
 refine ao ?_
 apply k9; clear k9; refine kp [0, 1, 2, 3, 5, 30, 39] ?_
 refine cd (fun hc10 => ?_) (fun hc10 => ?_)
 ·exfalso; (try simp only [zB, reduceCtorEq] at hc10)
  all_goals (exact absurd rfl hc10)
 (try simp only [zB, reduceCtorEq] at hc10)
 refine ay ?_
 apply k8; clear k8; refine kp [0, 1, 2, 3, 5, 30, 39] ?_
 refine ah fun _ k11 => ?_
 refine ah fun _ k12 => ?_
 refine am hP hN rfl ?_
 iterate 4 (refine aj rfl fun _ k0 => ?_; simp only [zO, zT, acs, reduceCtorEq, aa, V, ad, ag, af, ae, Mly.av, ai, az, aH]; (repeat refine an ?_); (try refine .inl ?_); apply k0; clear k0; simp only [zP, V])
 refine ao ?_
 apply k12; clear k12; refine kp [0, 1, 2, 3, 5, 30, 39, 42, 43] ?_
 refine aD ?_
 refine bn (fun n13 s13 => ∃ (s : Nat), (s ≤ m.nx.length) ∧ n13 = m.nx.length - s ∧ s13 = { env := [(1, .one (.ptr 0 0 0 0)), (2, .one (.bool false)), (3, .one (.ptr 1 0 0 0)), (42, .one (.int .i64 (m.nx.length : Int))), (43, .one (.int .i64 (s : Int)))], L := [.vars 24 [.int .i64 m.inp, .int .i64 m.st, .list (.list (.int .i64)) m.nx, .list (.list (.int .i64)) m.ot], .vars 29 [.list ndT (dt m)]] }) ?_ ?_
 ·exact ⟨_, _, aA [1, 2, 3, 42, 43], 0, Nat.zero_le _, rfl, rfl⟩
 rintro n13 s13 ⟨s, hs, rfl, rfl⟩
 refine ah fun _ k14 => ?_
 refine am hP hN rfl ?_
 (refine aj rfl fun _ k0 => ?_; simp only [zO, zT, acs, reduceCtorEq, aa, V, ad, ag, af, ae, Mly.av, ai, az, aH]; (repeat refine an ?_); (try refine .inl ?_); apply k0; clear k0; simp only [zP, V])
 refine ao ?_
 apply k14; clear k14; refine kp [1, 2, 3, 42, 43, 44] ?_
 refine ah fun _ k15 => ?_
 refine cd (fun hc16 => ?_) (fun hc16 => ?_)
 ·(try simp only [zB, reduceCtorEq] at hc16)
  refine ay ?_
  apply k15; clear k15; refine kp [1, 2, 3, 42, 43, 44] ?_
  refine ah fun _ k17 => ?_
  refine aD ?_
  refine ah fun _ k18 => ?_
  refine am hP hN rfl ?_
  iterate 2 (refine aj rfl fun _ k0 => ?_; simp only [zO, zT, acs, reduceCtorEq, aa, V, ad, ag, af, ae, Mly.av, ai, az, aH]; (repeat refine an ?_); (try refine .inl ?_); apply k0; clear k0; simp only [zP, V])
  refine ao ?_
  apply k18; clear k18; refine kp [1, 2, 3, 6, 42, 43, 44] ?_
  refine ah fun _ k19 => ?_
  refine am hP hN rfl ?_
  iterate 2 (refine aj rfl fun _ k0 => ?_; simp only [zO, zT, acs, reduceCtorEq, aa, V, ad, ag, af, ae, Mly.av, ai, az, aH]; (repeat refine an ?_); (try refine .inl ?_); apply k0; clear k0; simp only [zP, V])
  refine ao ?_
  apply k19; clear k19; refine kp [1, 2, 3, 6, 42, 43, 44, 46, 47] ?_
  refine aD ?_
  refine bn (fun n20 s20 => ∃ (u : Nat), (u ≤ s) ∧ n20 = s - u ∧ s20 = { env := [(1, .one (.ptr 0 0 0 0)), (2, .one (.bool false)), (3, .one (.ptr 1 0 0 0)), (6, .one (.int .i64 (s : Int))), (42, .one (.int .i64 (m.nx.length : Int))), (43, .one (.int .i64 (s : Int))), (46, .one (.int .i64 (s : Int))), (47, .one (.int .i64 (u : Int)))], L := [.vars 24 [.int .i64 m.inp, .int .i64 m.st, .list (.list (.int .i64)) m.nx, .list (.list (.int .i64)) m.ot], .vars 29 [.list ndT (dt m)]] }) ?_ ?_
  ·exact ⟨_, _, aA [1, 2, 3, 6, 42, 43, 46, 47], 0, Nat.zero_le _, rfl, rfl⟩
  rintro n20 s20 ⟨u, hu, rfl, rfl⟩
  refine ah fun _ k21 => ?_
  refine am hP hN rfl ?_
  (refine aj rfl fun _ k0 => ?_; simp only [zO, zT, acs, reduceCtorEq, aa, V, ad, ag, af, ae, Mly.av, ai, az, aH]; (repeat refine an ?_); (try refine .inl ?_); apply k0; clear k0; simp only [zP, V])
  refine ao ?_
  apply k21; clear k21; refine kp [1, 2, 3, 6, 42, 43, 46, 47, 48] ?_
  refine ah fun _ k22 => ?_
  refine cd (fun hc23 => ?_) (fun hc23 => ?_)
  ·(try simp only [zB, reduceCtorEq] at hc23)
   refine ay ?_
   apply k22; clear k22; refine kp [1, 2, 3, 6, 42, 43, 46, 47, 48] ?_
   refine ah fun _ k24 => ?_
   refine aD ?_
   refine ah fun _ k25 => ?_
   refine am hP hN rfl ?_
   iterate 2 (refine aj rfl fun _ k0 => ?_; simp only [zO, zT, acs, reduceCtorEq, aa, V, ad, ag, af, ae, Mly.av, ai, az, aH]; (repeat refine an ?_); (try refine .inl ?_); apply k0; clear k0; simp only [zP, V])
   refine ao ?_
   apply k25; clear k25; refine kp [1, 2, 3, 6, 7, 42, 43, 46, 47, 48] ?_
   refine ah fun _ k26 => ?_
   have hul : u < s := by omega
   obtain ⟨s1, s2, s3, s4, s5, s6, s7⟩ := v6 hk (s := (s : Int)) (by omega) (by omega)
   obtain ⟨u1, u2, u3, u4, u5, u6, u7⟩ := v6 hk (s := (u : Int)) (by omega) (by omega)
   obtain ⟨ht1, ht2⟩ := zg hk (s := (s : Int)) (u := (u : Int)) (by omega) (by omega) (by omega) (by omega) (by omega)
   refine am hP hN rfl ?_
   iterate 3 (refine aj rfl fun _ k0 => ?_; simp only [zO, zT, acs, reduceCtorEq, aa, V, ad, ag, af, ae, Mly.av, ai, az, aH]; (repeat refine an ?_); (try refine .inl ?_); apply k0; clear k0; simp only [zP, V])
   refine aj rfl fun _ k0 => ?_
   refine aK (h := aC (rR m hk (s : Int) (by omega) (by omega))) rfl rfl (by first | exact rfl | (simp only [ev, zP, aa, V]; exact rfl)) (by simp only [zV, acs, reduceCtorEq, aa, V, ad, ag, af, ae, Mly.av, ai, az, aH]) ?_
   apply k0; clear k0; simp only [zP, V]
   iterate 7 (refine aj rfl fun _ k0 => ?_; simp only [zO, zT, acs, reduceCtorEq, aa, V, ad, ag, af, ae, Mly.av, ai, az, aH]; (repeat refine an ?_); (try refine .inl ?_); apply k0; clear k0; simp only [zP, V])
   refine ao ?_
   apply k26; clear k26; refine kp [1, 2, 3, 6, 7, 8, 9, 10, 42, 43, 46, 47, 48] ?_
   refine ah fun _ k27 => ?_
   refine am hP hN rfl ?_
   iterate 3 (refine aj rfl fun _ k0 => ?_; simp only [zO, zT, acs, reduceCtorEq, aa, V, ad, ag, af, ae, Mly.av, ai, az, aH]; (repeat refine an ?_); (try refine .inl ?_); apply k0; clear k0; simp only [zP, V])
   refine aj rfl fun _ k0 => ?_
   refine aK (h := aC (rR m hk (u : Int) (by omega) (by omega))) rfl rfl (by first | exact rfl | (simp only [ev, zP, aa, V]; exact rfl)) (by simp only [zV, acs, reduceCtorEq, aa, V, ad, ag, af, ae, Mly.av, ai, az, aH]) ?_
   apply k0; clear k0; simp only [zP, V]
   iterate 7 (refine aj rfl fun _ k0 => ?_; simp only [zO, zT, acs, reduceCtorEq, aa, V, ad, ag, af, ae, Mly.av, ai, az, aH]; (repeat refine an ?_); (try refine .inl ?_); apply k0; clear k0; simp only [zP, V])
   refine ao ?_
   apply k27; clear k27; refine kp [1, 2, 3, 6, 7, 8, 9, 10, 11, 12, 13, 42, 43, 46, 47, 48] ?_
   refine ah fun _ k28 => ?_
   refine ah fun _ k29 => ?_
   refine am hP hN rfl ?_
   iterate 3 (refine aj rfl fun _ k0 => ?_; simp only [zO, zT, acs, reduceCtorEq, aa, V, ad, ag, af, ae, Mly.av, ai, az, aH]; (repeat refine an ?_); (try refine .inl ?_); apply k0; clear k0; simp only [zP, V])
   refine' aR (want := false) 2 rfl (m := 68) (by simp only [zP, aa, V]; exact rfl) (by kernel_rfl) rfl rfl rfl rfl rfl (fun hg30 => ?a30) ?b30 ?c30
   case a30 =>
    have hq30 := hg30; (try simp only [zB, reduceCtorEq] at hg30); simp only [zE]
    iterate 2 (refine bp rfl fun _ k0 => ?_; simp only [zO, zT, acs, reduceCtorEq, aa, V, ad, ag, af, ae, Mly.av, ai, az, aH]; (repeat refine an ?_); (try refine .inl ?_); apply k0; clear k0; simp only [zP, V])
    (refine aj rfl fun _ k0 => ?_; simp only [zO, zT, acs, reduceCtorEq, aa, V, ad, ag, af, ae, Mly.av, ai, az, aH]; (repeat refine an ?_); (try refine .inl ?_); apply k0; clear k0; simp only [zP, V])
    refine ao ?_
    refine ⟨by simp only [zP, aa, V]; exact rfl, rfl, ?_, rfl⟩; (repeat refine aS rfl ?_); exact bB (by exact rfl) hq30
   case b30 => exact cD
   simp only [bh, aY]
   refine ao ?_
   apply k29; clear k29; refine kp [1, 2, 3, 6, 7, 8, 9, 10, 11, 12, 13, 42, 43, 46, 47, 48, 71] ?_
   refine cd (fun hc31 => ?_) (fun hc31 => ?_)
   ·exfalso; (try simp only [zB, reduceCtorEq] at hc31)
    all_goals (rcases hc31 with h9 | h9 <;> exact absurd rfl h9)
   (try simp only [zB, reduceCtorEq] at hc31)
   refine ay ?_
   apply k28; clear k28; refine kp [1, 2, 3, 6, 7, 8, 9, 10, 11, 12, 13, 42, 43, 46, 47, 48, 71] ?_
   refine ah fun _ k32 => ?_
   refine ah fun _ k33 => ?_
   refine am hP hN rfl ?_
   iterate 3 (refine aj rfl fun _ k0 => ?_; simp only [zO, zT, acs, reduceCtorEq, aa, V, ad, ag, af, ae, Mly.av, ai, az, aH]; (repeat refine an ?_); (try refine .inl ?_); apply k0; clear k0; simp only [zP, V])
   refine ao ?_
   apply k33; clear k33; refine kp [1, 2, 3, 6, 7, 8, 9, 10, 11, 12, 13, 42, 43, 46, 47, 48, 71, 74] ?_
   refine cd (fun hc34 => ?_) (fun hc34 => ?_)
   ·(try simp only [zB, reduceCtorEq] at hc34)
    refine aZ ?_
    apply k24; clear k24; refine kp [1, 2, 3, 6, 7, 8, 9, 10, 11, 12, 13, 42, 43, 46, 47, 48, 71, 74] ?_
    refine am hP hN rfl ?_
    iterate 2 (refine aj rfl fun _ k0 => ?_; simp only [zO, zT, acs, reduceCtorEq, aa, V, ad, ag, af, ae, Mly.av, ai, az, aH]; (repeat refine an ?_); (try refine .inl ?_); apply k0; clear k0; simp only [zP, V])
    refine ao ?_
    refine ⟨_, _, ?_, aA [1, 2, 3, 6, 42, 43, 46, 47], u + 1, by omega, rfl, rfl⟩
    omega
   (try simp only [zB, reduceCtorEq] at hc34)
   obtain ⟨t1, t2, t3⟩ := ht1 (by have h9 : ((ki m (s : Int)) : Int) = ((ki m (u : Int)) : Int) := hc34; omega)
   have t4 : ¬ (m.go (s : Int) (fv m (s : Int))).1 = (m.go (u : Int) (fv m (u : Int))).1 := by rw [← t1]; exact t3
   have hse := BU hk (m8 hk (s := (s : Int)) ⟨by omega, by omega⟩ s5) (m8 hk (s := (u : Int)) ⟨by omega, by omega⟩ u5) t4
   refine ay ?_
   apply k32; clear k32; refine kp [1, 2, 3, 6, 7, 8, 9, 10, 11, 12, 13, 42, 43, 46, 47, 48, 71, 74] ?_
   refine ah fun _ k35 => ?_
   refine am hP hN rfl ?_
   iterate 3 (refine aj rfl fun _ k0 => ?_; simp only [zO, zT, acs, reduceCtorEq, aa, V, ad, ag, af, ae, Mly.av, ai, az, aH]; (repeat refine an ?_); (try refine .inl ?_); apply k0; clear k0; simp only [zP, V])
   refine aj rfl fun _ k0 => ?_
   refine aK (h := aC (uV m hk (s : Int) ⟨by omega, by omega⟩ (fv m (s : Int)) s5 (by omega))) rfl rfl (by first | exact rfl | (simp only [ev, zP, aa, V]; exact rfl)) (by simp only [zV, acs, reduceCtorEq, aa, V, ad, ag, af, ae, Mly.av, ai, az, aH]) ?_
   apply k0; clear k0; simp only [zP, V]
   iterate 7 (refine aj rfl fun _ k0 => ?_; simp only [zO, zT, acs, reduceCtorEq, aa, V, ad, ag, af, ae, Mly.av, ai, az, aH]; (repeat refine an ?_); (try refine .inl ?_); apply k0; clear k0; simp only [zP, V])
   refine ao ?_
   apply k35; clear k35; refine kp [1, 2, 3, 6, 7, 8, 9, 10, 11, 12, 13, 15, 16, 42, 43, 46, 47, 48, 71, 74] ?_
   refine ah fun _ k36 => ?_
   refine am hP hN rfl ?_
   iterate 3 (refine aj rfl fun _ k0 => ?_; simp only [zO, zT, acs, reduceCtorEq, aa, V, ad, ag, af, ae, Mly.av, ai, az, aH]; (repeat refine an ?_); (try refine .inl ?_); apply k0; clear k0; simp only [zP, V])
   refine aj rfl fun _ k0 => ?_
   refine aK (h := aC (uV m hk (u : Int) ⟨by omega, by omega⟩ (fv m (u : Int)) u5 (by omega))) rfl rfl (by first | exact rfl | (simp only [ev, zP, aa, V]; exact rfl)) (by simp only [zV, acs, reduceCtorEq, aa, V, ad, ag, af, ae, Mly.av, ai, az, aH]) ?_
   apply k0; clear k0; simp only [zP, V]
   iterate 7 (refine aj rfl fun _ k0 => ?_; simp only [zO, zT, acs, reduceCtorEq, aa, V, ad, ag, af, ae, Mly.av, ai, az, aH]; (repeat refine an ?_); (try refine .inl ?_); apply k0; clear k0; simp only [zP, V])
   refine ao ?_
   apply k36; clear k36; refine kp [1, 2, 3, 6, 7, 8, 9, 10, 11, 12, 13, 15, 16, 18, 19, 42, 43, 46, 47, 48, 71, 74] ?_
   refine ah fun _ k37 => ?_
   refine am hP hN rfl ?_
   iterate 3 (refine aj rfl fun _ k0 => ?_; simp only [zO, zT, acs, reduceCtorEq, aa, V, ad, ag, af, ae, Mly.av, ai, az, aH]; (repeat refine an ?_); (try refine .inl ?_); apply k0; clear k0; simp only [zP, V])
   refine aj rfl fun _ k0 => ?_
   refine aK (h := aC (B9 m (m.go (s : Int) (fv m (s : Int))).1 (m.go (u : Int) (fv m (u : Int))).1 hk.ok (m8 hk ⟨by omega, by omega⟩ s5) (m8 hk ⟨by omega, by omega⟩ u5))) rfl rfl (by first | exact rfl | (simp only [ev, zP, aa, V]; exact rfl)) (by simp only [zV, acs, reduceCtorEq, aa, V, ad, ag, af, ae, Mly.av, ai, az, aH]) ?_
   apply k0; clear k0; simp only [zP, V]
   iterate 7 (refine aj rfl fun _ k0 => ?_; simp only [zO, zT, acs, reduceCtorEq, aa, V, ad, ag, af, ae, Mly.av, ai, az, aH]; (repeat refine an ?_); (try refine .inl ?_); apply k0; clear k0; simp only [zP, V])
   refine ao ?_
   apply k37; clear k37; refine kp [1, 2, 3, 6, 7, 8, 9, 10, 11, 12, 13, 15, 16, 18, 19, 21, 22, 42, 43, 46, 47, 48, 71, 74] ?_
   refine ah fun _ k38 => ?_
   refine am hP hN rfl ?_
   iterate 3 (refine aj rfl fun _ k0 => ?_; simp only [zO, zT, acs, reduceCtorEq, aa, V, ad, ag, af, ae, Mly.av, ai, az, aH]; (repeat refine an ?_); (try refine .inl ?_); apply k0; clear k0; simp only [zP, V])
   refine' aR (want := false) 2 rfl (m := 101) (by simp only [zP, aa, V]; exact rfl) (by kernel_rfl) rfl rfl rfl rfl rfl (fun hg39 => ?a39) ?b39 ?c39
   case a39 =>
    have hq39 := hg39; (try simp only [zB, reduceCtorEq] at hg39); simp only [zE]
    iterate 2 (refine bp rfl fun _ k0 => ?_; simp only [zO, zT, acs, reduceCtorEq, aa, V, ad, ag, af, ae, Mly.av, ai, az, aH]; (repeat refine an ?_); (try refine .inl ?_); apply k0; clear k0; simp only [zP, V])
    (refine aj rfl fun _ k0 => ?_; simp only [zO, zT, acs, reduceCtorEq, aa, V, ad, ag, af, ae, Mly.av, ai, az, aH]; (repeat refine an ?_); (try refine .inl ?_); apply k0; clear k0; simp only [zP, V])
    refine ao ?_
    refine ⟨by simp only [zP, aa, V]; exact rfl, rfl, ?_, rfl⟩; (repeat refine aS rfl ?_); exact bB (by exact rfl) hq39
   case b39 => exact cD
   simp only [bh, aY]
   (refine aj rfl fun _ k0 => ?_; simp only [zO, zT, acs, reduceCtorEq, aa, V, ad, ag, af, ae, Mly.av, ai, az, aH]; (repeat refine an ?_); (try refine .inl ?_); apply k0; clear k0; simp only [zP, V])
   refine' aR (want := false) 2 rfl (m := 105) (by simp only [zP, aa, V]; exact rfl) (by kernel_rfl) rfl rfl rfl rfl rfl (fun hg40 => ?a40) ?b40 ?c40
   case a40 =>
    have hq40 := hg40; (try simp only [zB, reduceCtorEq] at hg40); simp only [zE]
    iterate 2 (refine bp rfl fun _ k0 => ?_; simp only [zO, zT, acs, reduceCtorEq, aa, V, ad, ag, af, ae, Mly.av, ai, az, aH]; (repeat refine an ?_); (try refine .inl ?_); apply k0; clear k0; simp only [zP, V])
    (refine aj rfl fun _ k0 => ?_; simp only [zO, zT, acs, reduceCtorEq, aa, V, ad, ag, af, ae, Mly.av, ai, az, aH]; (repeat refine an ?_); (try refine .inl ?_); apply k0; clear k0; simp only [zP, V])
    refine ao ?_
    refine ⟨by simp only [zP, aa, V]; exact rfl, rfl, ?_, rfl⟩; (repeat refine aS rfl ?_); exact bB (by exact rfl) hq40
   case b40 => exact cD
   simp only [bh, aY]
   (refine aj rfl fun _ k0 => ?_; simp only [zO, zT, acs, reduceCtorEq, aa, V, ad, ag, af, ae, Mly.av, ai, az, aH]; (repeat refine an ?_); (try refine .inl ?_); apply k0; clear k0; simp only [zP, V])
   refine' aR (want := false) 3 rfl (m := 109) (by simp only [zP, aa, V]; exact rfl) (by kernel_rfl) rfl rfl rfl rfl rfl (fun hg41 => ?a41) ?b41 ?c41
   case a41 =>
    have hq41 := hg41; (try simp only [zB, reduceCtorEq] at hg41); simp only [zE]
    iterate 3 (refine bp rfl fun _ k0 => ?_; simp only [zO, zT, acs, reduceCtorEq, aa, V, ad, ag, af, ae, Mly.av, ai, az, aH]; (repeat refine an ?_); (try refine .inl ?_); apply k0; clear k0; simp only [zP, V])
    (refine aj rfl fun _ k0 => ?_; simp only [zO, zT, acs, reduceCtorEq, aa, V, ad, ag, af, ae, Mly.av, ai, az, aH]; (repeat refine an ?_); (try refine .inl ?_); apply k0; clear k0; simp only [zP, V])
    refine ao ?_
    refine ⟨by simp only [zP, aa, V]; exact rfl, rfl, ?_, rfl⟩; (repeat refine aS rfl ?_); exact bB (by exact rfl) hq41
   case b41 => exact cD
   simp only [bh, aY]
   (refine aj rfl fun _ k0 => ?_; simp only [zO, zT, acs, reduceCtorEq, aa, V, ad, ag, af, ae, Mly.av, ai, az, aH]; (repeat refine an ?_); (try refine .inl ?_); apply k0; clear k0; simp only [zP, V])
   refine' aR (want := false) 2 rfl (m := 114) (by simp only [zP, aa, V]; exact rfl) (by kernel_rfl) rfl rfl rfl rfl rfl (fun hg42 => ?a42) ?b42 ?c42
   case a42 =>
    have hq42 := hg42; (try simp only [zB, reduceCtorEq] at hg42); simp only [zE]
    iterate 2 (refine bp rfl fun _ k0 => ?_; simp only [zO, zT, acs, reduceCtorEq, aa, V, ad, ag, af, ae, Mly.av, ai, az, aH]; (repeat refine an ?_); (try refine .inl ?_); apply k0; clear k0; simp only [zP, V])
    (refine aj rfl fun _ k0 => ?_; simp only [zO, zT, acs, reduceCtorEq, aa, V, ad, ag, af, ae, Mly.av, ai, az, aH]; (repeat refine an ?_); (try refine .inl ?_); apply k0; clear k0; simp only [zP, V])
    refine ao ?_
    refine ⟨by simp only [zP, aa, V]; exact rfl, rfl, ?_, rfl⟩; (repeat refine aS rfl ?_); exact bB (by exact rfl) hq42
   case b42 => exact cD
   simp only [bh, aY]
   (refine aj rfl fun _ k0 => ?_; simp only [zO, zT, acs, reduceCtorEq, aa, V, ad, ag, af, ae, Mly.av, ai, az, aH]; (repeat refine an ?_); (try refine .inl ?_); apply k0; clear k0; simp only [zP, V])
   refine' aR (want := false) 4 rfl (m := 118) (by simp only [zP, aa, V]; exact rfl) (by kernel_rfl) rfl rfl rfl rfl rfl (fun hg43 => ?a43) ?b43 ?c43
   case a43 =>
    have hq43 := hg43; (try simp only [zB, reduceCtorEq] at hg43); simp only [zE]
    iterate 2 (refine bp rfl fun _ k0 => ?_; simp only [zO, zT, acs, reduceCtorEq, aa, V, ad, ag, af, ae, Mly.av, ai, az, aH]; (repeat refine an ?_); (try refine .inl ?_); apply k0; clear k0; simp only [zP, V])
    refine bp rfl fun _ k0 => ?_
    refine aK (h := aC (xi (fv m (s : Int)) (fv m (u : Int)))) rfl rfl (by first | exact rfl | (simp only [ev, zP, aa, V]; exact rfl)) (by simp only [zV, acs, reduceCtorEq, aa, V, ad, ag, af, ae, Mly.av, ai, az, aH]) ?_
    apply k0; clear k0; simp only [zP, V]
    (refine bp rfl fun _ k0 => ?_; simp only [zO, zT, acs, reduceCtorEq, aa, V, ad, ag, af, ae, Mly.av, ai, az, aH]; (repeat refine an ?_); (try refine .inl ?_); apply k0; clear k0; simp only [zP, V])
    (refine aj rfl fun _ k0 => ?_; simp only [zO, zT, acs, reduceCtorEq, aa, V, ad, ag, af, ae, Mly.av, ai, az, aH]; (repeat refine an ?_); (try refine .inl ?_); apply k0; clear k0; simp only [zP, V])
    refine ao ?_
    refine ⟨by simp only [zP, aa, V]; exact rfl, rfl, ?_, rfl⟩; (repeat refine aS rfl ?_); exact bB (by exact rfl) hq43
   case b43 => exact cD
   simp only [bh, aY]
   refine ao ?_
   apply k38; clear k38; refine kp [1, 2, 3, 6, 7, 8, 9, 10, 11, 12, 13, 15, 16, 18, 19, 21, 22, 42, 43, 46, 47, 48, 71, 74, 123] ?_
   refine cd (fun hc44 => ?_) (fun hc44 => ?_)
   ·exfalso; (try simp only [zB, reduceCtorEq] at hc44)
    rcases hc44 with (h9 | h9) | h9 <;> first | exact t4 h9 | exact h9 t1 | (rw [hse] at h9; cases h9; done) | simp_all
   (try simp only [zB, reduceCtorEq] at hc44)
   refine ay ?_
   apply k24; clear k24; refine kp [1, 2, 3, 6, 7, 8, 9, 10, 11, 12, 13, 15, 16, 18, 19, 21, 22, 42, 43, 46, 47, 48, 71, 74, 123] ?_
   refine am hP hN rfl ?_
   iterate 2 (refine aj rfl fun _ k0 => ?_; simp only [zO, zT, acs, reduceCtorEq, aa, V, ad, ag, af, ae, Mly.av, ai, az, aH]; (repeat refine an ?_); (try refine .inl ?_); apply k0; clear k0; simp only [zP, V])
   refine ao ?_
   refine ⟨_, _, ?_, aA [1, 2, 3, 6, 42, 43, 46, 47], u + 1, by omega, rfl, rfl⟩
   omega
  (try simp only [zB, reduceCtorEq] at hc23)
  refine aZ ?_
  apply k17; clear k17; refine kp [1, 2, 3, 6, 42, 43, 46, 47, 48] ?_
  refine am hP hN rfl ?_
  iterate 2 (refine aj rfl fun _ k0 => ?_; simp only [zO, zT, acs, reduceCtorEq, aa, V, ad, ag, af, ae, Mly.av, ai, az, aH]; (repeat refine an ?_); (try refine .inl ?_); apply k0; clear k0; simp only [zP, V])
  refine ao ?_
  refine ⟨_, _, ?_, aA [1, 2, 3, 42, 43], s + 1, by omega, rfl, rfl⟩
  omega
 (try simp only [zB, reduceCtorEq] at hc16)
 refine aZ ?_
 apply k11; clear k11; refine kp [1, 2, 3, 42, 43, 44] ?_
 refine ah fun _ k45 => ?_
 refine am hP hN rfl ?_
 refine aj rfl fun _ k0 => ?_
 refine aK (h := aC xu) rfl rfl (by first | exact rfl | (simp only [ev, zP, aa, V]; exact rfl)) (by simp only [zV, acs, reduceCtorEq, aa, V, ad, ag, af, ae, Mly.av, ai, az, aH]) ?_
 apply k0; clear k0; simp only [zP, V]
 (refine aj rfl fun _ k0 => ?_; simp only [zO, zT, acs, reduceCtorEq, aa, V, ad, ag, af, ae, Mly.av, ai, az, aH]; (repeat refine an ?_); (try refine .inl ?_); apply k0; clear k0; simp only [zP, V])
 refine ao ?_
 apply k45; clear k45; refine kp [1, 2, 3, 42, 43, 44] ?_
 refine aE ?_
 refine ⟨nr, _, rfl, ?_⟩; simp only [zF, zP, aa, V, Mly.av, ai, az, aH]
 refine VLE.of_eq ?_
 rfl
end Go.Proofs.Ytoahhklogohehaa
