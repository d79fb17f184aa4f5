/- Contracts of functions of this seat, each out of a walk through its code, and plain facts on what they compute. Conditions: those that each theorem names. -/
import Derived.Test.YtoahhklogohehaaW03
set_option linter.unusedSimpArgs false
set_option linter.unusedVariables false
set_option maxRecDepth 100000
namespace Go.Proofs.Ytoahhklogohehaa
open Go Go.AV
open Nat renaming reduceEqDiff → aa, reduceAdd → V, reduceLeDiff → ad, reduceLT → ag, reduceMul → af, reduceSub → ae
open List renaming set_cons_zero → cK, set_cons_succ → cF, getD_cons_zero → au, length_append → ar, map_cons → aJ, cons_append → aN, map_nil → bz, length_cons → ax, nil_append → b6, take_succ_cons → d6, length_nil → aI, length_map → aw, length_replicate → aB, take_length → aO, mem_cons_self → aV, mem_cons_of_mem → aM
open Int renaming toNat_natCast → ai
set_option maxHeartbeats 1000000 in
theorem yu (m : Mly) (l : List Int) (a : Int) (hm : MOK m) (hs : dm m l) (ha : 0 ≤ a ∧ a < m.inp) (hl : l.length ≤ 1000) : cb Try.prog 72 [m.av, .one (.list (.int .i64) l), .one (.int .i64 a)] (.tup [.one (.list (.int .i64) (if unS m l a l.length = true then [] else cO m l a)), .one (.bool (!unS m l a l.length)), .one (.bool (!unS m l a l.length && smO m l a l.length))]) := by
 have ol := hm.ol
 refine aT Try.func72 rfl (by kernel_rfl) (Nat.le_of_ble_eq_true rfl) rfl fun C hP hN hB => ?_
 replace hN : C.N = 106 := hN
 simp only [bc, V]
 refine ah fun _ k1 => ?_
 refine am hP hN rfl ?_
 iterate 4 (refine aj rfl fun _ k0 => ?_; simp only [zO, zT, acs, reduceCtorEq, aa, V, ad, ag, af, ae, Mly.av, ai]; (repeat refine an ?_); (try refine .inl ?_); apply k0; clear k0; simp only [zP, V])
 refine ao ?_
 apply k1; clear k1; refine kp [0, 1, 2, 3, 6, 7, 8] ?_
 refine ah fun _ k2 => ?_
 refine am hP hN rfl ?_
 iterate 2 (refine aj rfl fun _ k0 => ?_; simp only [zO, zT, acs, reduceCtorEq, aa, V, ad, ag, af, ae, Mly.av, ai]; (repeat refine an ?_); (try refine .inl ?_); apply k0; clear k0; simp only [zP, V])
 (refine aj rfl fun _ k0 => ?_; simp only [zE, op1, ev, lkp, d7, ca, cq, fb, eB, cP, db, eH, Nat.div_one, cM, dg, Ty.size, bC, dite_true, cR, Ty.dflt, reduceCtorEq, aa, V, ad, ag, af, ae, Try.el41, Try.td3, Try.td41, Mly.av, ai]; (repeat refine an ?_); (try refine .inl ?_); apply k0; clear k0; simp only [zP, V])
 (refine aj rfl fun _ k0 => ?_; simp only [zO, zT, acs, reduceCtorEq, aa, V, ad, ag, af, ae, Mly.av, ai]; (repeat refine an ?_); (try refine .inl ?_); apply k0; clear k0; simp only [zP, V])
 refine ao ?_
 apply k2; clear k2; refine kp [0, 1, 2, 3, 6, 7, 8, 9] ?_
 refine ah fun _ k3 => ?_
 refine am hP hN rfl ?_
 (refine aj rfl fun _ k0 => ?_; simp only [zO, zT, acs, reduceCtorEq, aa, V, ad, ag, af, ae, Mly.av, ai]; (repeat refine an ?_); (try refine .inl ?_); apply k0; clear k0; simp only [zP, V])
 refine ao ?_
 apply k3; clear k3; refine kp [0, 1, 2, 3, 6, 7, 8, 9, 10] ?_
 refine ah fun _ k4 => ?_
 refine ah fun _ k5 => ?_
 refine am hP hN rfl ?_
 iterate 3 (refine aj rfl fun _ k0 => ?_; simp only [zO, zT, acs, reduceCtorEq, aa, V, ad, ag, af, ae, Mly.av, ai]; (repeat refine an ?_); (try refine .inl ?_); apply k0; clear k0; simp only [zP, V])
 refine ao ?_
 apply k5; clear k5; refine kp [0, 1, 2, 3, 6, 7, 8, 9, 10, 18, 19, 20] ?_
 refine aD ?_
 refine bn (fun n6 s6 => ∃ (k : Nat) (v : Nat), (k ≤ l.length) ∧ (∀ k2 j2, k2 < k → j2 < k2 → clB m a (l.getD k2 0) (l.getD j2 0) = false) ∧ n6 = l.length - k ∧ s6 = { env := [(1, .one (.list (.int .i64) l)), (2, .one (.int .i64 a)), (3, .one (.ptr 0 0 0 0)), (6, .one .nils), (7, .one (.bool false)), (8, .one (.bool false)), (9, .one (.row 1 v)), (10, .one (.bool (smO m l a k))), (18, .one (.list (.int .i64) l)), (19, .one (.int .i64 (l.length : Int))), (20, .one (.int .i64 (k : Int)))], L := [.vars 24 [.int .i64 m.inp, .int .i64 m.st, .list (.list (.int .i64)) m.nx, .list (.list (.int .i64)) m.ot], .row (.int .i64) 3 v (cO m (l.take k) a)] }) ?_ ?_
 ·exact ⟨_, _, aA [1, 2, 3, 6, 7, 8, 9, 10, 18, 19, 20], 0, 0, Nat.zero_le _, fun k2 j2 h1 h2 => by omega, rfl, rfl⟩
 rintro n6 s6 ⟨k, v, hk, hu, rfl, rfl⟩
 refine ah fun _ k7 => ?_
 refine am hP hN rfl ?_
 (refine aj rfl fun _ k0 => ?_; simp only [zO, zT, acs, reduceCtorEq, aa, V, ad, ag, af, ae, Mly.av, ai]; (repeat refine an ?_); (try refine .inl ?_); apply k0; clear k0; simp only [zP, V])
 refine ao ?_
 apply k7; clear k7; refine kp [1, 2, 3, 6, 7, 8, 9, 10, 18, 19, 20, 21] ?_
 refine ah fun _ k8 => ?_
 refine cd (fun hc9 => ?_) (fun hc9 => ?_)
 ·(try simp only [zB, reduceCtorEq] at hc9)
  refine ay ?_
  apply k8; clear k8; refine kp [1, 2, 3, 6, 7, 8, 9, 10, 18, 19, 20, 21] ?_
  refine ah fun _ k10 => ?_
  refine aD ?_
  refine ah fun _ k11 => ?_
  refine am hP hN rfl ?_
  iterate 5 (refine aj rfl fun _ k0 => ?_; simp only [zO, zT, acs, reduceCtorEq, aa, V, ad, ag, af, ae, Mly.av, ai]; (repeat refine an ?_); (try refine .inl ?_); apply k0; clear k0; simp only [zP, V])
  refine ao ?_
  apply k11; clear k11; refine kp [1, 2, 3, 6, 7, 8, 9, 10, 11, 12, 18, 19, 20, 21] ?_
  refine ah fun _ k12 => ?_
  refine ah fun _ k13 => ?_
  have hkl : k < l.length := by omega
  have hsk := hs _ (br hkl)
  have htl : (l.take k).length = k := by rw [List.length_take]; omega
  have q1 := hm.rl (l.getD k 0).toNat (by omega); have q2 := hm.ql (l.getD k 0).toNat (by omega)
  refine am hP hN rfl ?_
  iterate 2 (refine aj rfl fun _ k0 => ?_; simp only [zO, zT, acs, reduceCtorEq, aa, V, ad, ag, af, ae, Mly.av, ai, htl]; (repeat refine an ?_); (try refine .inl ?_); apply k0; clear k0; simp only [zP, V])
  (refine aj rfl fun _ k0 => ?_; simp only [zE, op1, ev, lkp, d7, ca, hU, bnd, Ty.size, cq, fb, eB, cP, db, eH, Nat.div_one, cM, dg, bC, dite_true, reduceCtorEq, aa, V, ad, ag, af, ae, Try.el41, Try.td3, Try.td41, Mly.av, ai, htl]; (repeat refine an ?_); (try refine .inl ?_); apply k0; clear k0; simp only [zP, V])
  iterate 2 (refine aj rfl fun _ k0 => ?_; simp only [zO, zT, acs, reduceCtorEq, aa, V, ad, ag, af, ae, Mly.av, ai, htl]; (repeat refine an ?_); (try refine .inl ?_); apply k0; clear k0; simp only [zP, V])
  refine ao ?_
  apply k13; clear k13; refine kp [1, 2, 3, 6, 7, 8, 9, 10, 11, 12, 18, 19, 20, 21, 27, 28, 29] ?_
  refine aD ?_
  refine bn (fun n14 s14 => ∃ (j : Nat), (j ≤ k) ∧ (∀ j2, j2 < j → clB m a (l.getD k 0) (l.getD j2 0) = false) ∧ n14 = k - j ∧ s14 = { env := [(1, .one (.list (.int .i64) l)), (2, .one (.int .i64 a)), (3, .one (.ptr 0 0 0 0)), (6, .one .nils), (7, .one (.bool false)), (8, .one (.bool false)), (9, .one (.row 1 v)), (10, .one (.bool (smO m l a k))), (11, .one (.int .i64 (k : Int))), (12, .one (.int .i64 (l.getD k 0))), (18, .one (.list (.int .i64) l)), (19, .one (.int .i64 (l.length : Int))), (20, .one (.int .i64 (k : Int))), (27, .one (.list (.int .i64) (l.take k))), (28, .one (.int .i64 (k : Int))), (29, .one (.int .i64 (j : Int)))], L := [.vars 24 [.int .i64 m.inp, .int .i64 m.st, .list (.list (.int .i64)) m.nx, .list (.list (.int .i64)) m.ot], .row (.int .i64) 3 v (cO m (l.take k) a)] }) ?_ ?_
  ·exact ⟨_, _, aA [1, 2, 3, 6, 7, 8, 9, 10, 11, 12, 18, 19, 20, 27, 28, 29], 0, Nat.zero_le _, fun j2 h => by omega, rfl, rfl⟩
  rintro n14 s14 ⟨j, hj, hq, rfl, rfl⟩
  refine ah fun _ k15 => ?_
  refine am hP hN rfl ?_
  (refine aj rfl fun _ k0 => ?_; simp only [zO, zT, acs, reduceCtorEq, aa, V, ad, ag, af, ae, Mly.av, ai]; (repeat refine an ?_); (try refine .inl ?_); apply k0; clear k0; simp only [zP, V])
  refine ao ?_
  apply k15; clear k15; refine kp [1, 2, 3, 6, 7, 8, 9, 10, 11, 12, 18, 19, 20, 27, 28, 29, 30] ?_
  refine ah fun _ k16 => ?_
  refine cd (fun hc17 => ?_) (fun hc17 => ?_)
  ·(try simp only [zB, reduceCtorEq] at hc17)
   refine ay ?_
   apply k16; clear k16; refine kp [1, 2, 3, 6, 7, 8, 9, 10, 11, 12, 18, 19, 20, 27, 28, 29, 30] ?_
   refine ah fun _ k18 => ?_
   refine aD ?_
   refine ah fun _ k19 => ?_
   have hjl : j < l.length := by omega
   have hsj := hs _ (br hjl)
   have hgj : (l.take k).getD j 0 = (l.getD j 0) := by simp [List.getD, show j < k by omega]
   have q3 := hm.rl (l.getD j 0).toNat (by omega); have q4 := hm.ql (l.getD j 0).toNat (by omega)
   refine am hP hN rfl ?_
   iterate 3 (refine aj rfl fun _ k0 => ?_; simp only [zO, zT, acs, reduceCtorEq, aa, V, ad, ag, af, ae, Mly.av, ai, hgj]; (repeat refine an ?_); (try refine .inl ?_); apply k0; clear k0; simp only [zP, V])
   refine ao ?_
   apply k19; clear k19; refine kp [1, 2, 3, 6, 7, 8, 9, 10, 11, 12, 14, 18, 19, 20, 27, 28, 29, 30] ?_
   refine ah fun _ k20 => ?_
   refine bu hP hN Try.mixed rfl ?_
   iterate 18 (refine aj rfl fun _ k0 => ?_; simp only [zO, zT, acs, reduceCtorEq, aa, V, ad, ag, af, ae, Mly.av, ai]; (repeat refine an ?_); (try refine .inl ?_); apply k0; clear k0; simp only [zP, V])
   refine' aR (want := true) 17 rfl (m := 50) (by simp only [zP, aa, V]; exact rfl) (by kernel_rfl) rfl rfl rfl rfl rfl (fun hg21 => ?a21) ?b21 ?c21
   case a21 =>
    have hq21 := hg21; (try simp only [zB, reduceCtorEq] at hg21); simp only [zE]
    iterate 17 (refine bp rfl fun _ k0 => ?_; simp only [zO, zT, acs, reduceCtorEq, aa, V, ad, ag, af, ae, Mly.av, ai]; (repeat refine an ?_); (try refine .inl ?_); apply k0; clear k0; simp only [zP, V])
    (refine aj rfl fun _ k0 => ?_; simp only [zO, zT, acs, reduceCtorEq, aa, V, ad, ag, af, ae, Mly.av, ai]; (repeat refine an ?_); (try refine .inl ?_); apply k0; clear k0; simp only [zP, V])
    refine ao ?_
    refine ⟨by simp only [zP, aa, V]; exact rfl, rfl, ?_, rfl⟩; (repeat refine aS rfl ?_); exact bB (by exact rfl) hq21
   case b21 => exact cD
   simp only [bh, aY]
   refine ao ?_
   refine ⟨by kernel_rfl, ?_⟩
   apply k20; clear k20; refine kp [1, 2, 3, 6, 7, 8, 9, 10, 11, 12, 14, 18, 19, 20, 27, 28, 29, 30, 68] ?_
   refine cd (fun hc22 => ?_) (fun hc22 => ?_)
   ·(try simp only [zB, reduceCtorEq] at hc22)
    have hy : clB m a (l.getD k 0) (l.getD j 0) = true := by have h9 := hc22; unfold clB Mly.out Mly.nxt; simpa using h9
    have hun : unS m l a l.length = true := zz hkl (by omega) hy
    refine ah fun _ k23 => ?_
    refine am hP hN rfl ?_
    iterate 3 (refine aj rfl fun _ k0 => ?_; simp only [zO, zT, acs, reduceCtorEq, aa, V, ad, ag, af, ae, Mly.av, ai]; (repeat refine an ?_); (try refine .inl ?_); apply k0; clear k0; simp only [zP, V])
    refine ao ?_
    apply k23; clear k23; refine kp [1, 2, 3, 6, 7, 8, 9, 10, 11, 12, 14, 18, 19, 20, 27, 28, 29, 30, 68] ?_
    refine aE ?_
    refine ⟨nr, _, rfl, ?_⟩; simp only [zF, zP, aa, V, Mly.av, ai]
    first
    | (rw [hun]; exact bE ⟨aF (bo rfl), aF (.refl _), aF (.refl _), trivial⟩)
    | (rw [hun, hkw, aO]; exact VLE.of_eq rfl)
   (try simp only [zB, reduceCtorEq] at hc22)
   have hy : clB m a (l.getD k 0) (l.getD j 0) = false := by have h9 := hc22; unfold clB Mly.out Mly.nxt; rw [Bool.and_eq_false_iff, decide_eq_false_iff_not, decide_eq_false_iff_not]; exact h9
   refine ay ?_
   apply k18; clear k18; refine kp [1, 2, 3, 6, 7, 8, 9, 10, 11, 12, 14, 18, 19, 20, 27, 28, 29, 30, 68] ?_
   refine am hP hN rfl ?_
   iterate 2 (refine aj rfl fun _ k0 => ?_; simp only [zO, zT, acs, reduceCtorEq, aa, V, ad, ag, af, ae, Mly.av, ai]; (repeat refine an ?_); (try refine .inl ?_); apply k0; clear k0; simp only [zP, V])
   refine ao ?_
   refine ⟨_, _, ?_, aA [1, 2, 3, 6, 7, 8, 9, 10, 11, 12, 18, 19, 20, 27, 28, 29], j + 1, by omega, fun j2 h2 => ?_, rfl, rfl⟩
   · omega
   · by_cases e : j2 = j
     · rw [e]; exact hy
     · exact hq j2 (by omega)
  (try simp only [zB, reduceCtorEq] at hc17)
  refine aZ ?_
  apply k12; clear k12; refine kp [1, 2, 3, 6, 7, 8, 9, 10, 11, 12, 18, 19, 20, 27, 28, 29, 30] ?_
  refine ah fun _ k24 => ?_
  have hs0 := hs _ (br (w := l) (i := 0) (by omega))
  have q5 := hm.ql (l.getD 0 0).toNat (by omega)
  have hjk : j = k := by omega
  have hnl : (cO m (l.take k) a).length = k := by unfold cO; rw [aw]; exact htl
  have hcl : ∀ k2 j2, k2 < k + 1 → j2 < k2 → clB m a (l.getD k2 0) (l.getD j2 0) = false := fun k2 j2 h1 h2 => by
    by_cases e : k2 = k
    · rw [e]; exact hq j2 (by omega)
    · exact hu k2 j2 (by omega) h2
  have hsm := yF m l a k
  refine bu hP hN Try.mixed rfl ?_
  iterate 2 (refine aj rfl fun _ k0 => ?_; simp only [zO, zT, acs, reduceCtorEq, aa, V, ad, ag, af, ae, Mly.av, ai]; (repeat refine an ?_); (try refine .inl ?_); apply k0; clear k0; simp only [zP, V])
  refine' aR (want := true) 19 rfl (m := 71) (by simp only [zP, aa, V]; exact rfl) (by kernel_rfl) rfl rfl rfl rfl rfl (fun hg25 => ?a25) ?b25 ?c25
  case a25 =>
   have hq25 := hg25; (try simp only [zB, reduceCtorEq] at hg25); simp only [zE]
   iterate 19 (refine bp rfl fun _ k0 => ?_; simp only [zO, zT, acs, reduceCtorEq, aa, V, ad, ag, af, ae, Mly.av, ai]; (repeat refine an ?_); (try refine .inl ?_); apply k0; clear k0; simp only [zP, V])
   (refine aj rfl fun _ k0 => ?_; simp only [zO, zT, acs, reduceCtorEq, aa, V, ad, ag, af, ae, Mly.av, ai]; (repeat refine an ?_); (try refine .inl ?_); apply k0; clear k0; simp only [zP, V])
   refine ao ?_
   refine ⟨by simp only [zP, aa, V]; exact rfl, rfl, ?_, rfl⟩; (repeat refine aS rfl ?_); exact bB (by exact rfl) hq25
  case b25 => exact cD
  simp only [bh, aY]
  (refine aj rfl fun _ k0 => ?_; simp only [zO, zT, acs, reduceCtorEq, aa, V, ad, ag, af, ae, Mly.av, ai]; (repeat refine an ?_); (try refine .inl ?_); apply k0; clear k0; simp only [zP, V])
  refine ao ?_
  refine ⟨by kernel_rfl, ?_⟩
  apply k24; clear k24; refine kp [1, 2, 3, 6, 7, 8, 9, 10, 11, 12, 18, 19, 20, 27, 28, 29, 30] ?_
  refine am hP hN rfl ?_
  iterate 12 (refine aj rfl fun _ k0 => ?_; simp only [zO, zT, acs, reduceCtorEq, aa, V, ad, ag, af, ae, Mly.av, ai]; (repeat refine an ?_); (try refine .inl ?_); apply k0; clear k0; simp only [zP, V])
  refine ao ?_
  apply k10; clear k10; refine kp [1, 2, 3, 6, 7, 8, 9, 10, 11, 12, 18, 19, 20, 27, 28, 29, 30] ?_
  refine am hP hN rfl ?_
  iterate 2 (refine aj rfl fun _ k0 => ?_; simp only [zO, zT, acs, reduceCtorEq, aa, V, ad, ag, af, ae, Mly.av, ai]; (repeat refine an ?_); (try refine .inl ?_); apply k0; clear k0; simp only [zP, V])
  refine ao ?_
  refine ⟨_, _, ?_, aA [1, 2, 3, 6, 7, 8, 9, 10, 18, 19, 20], k + 1, v + 1, by omega, hcl, rfl, ?_⟩
  · omega
  · rw [vT hkl, hsm]; rfl
 (try simp only [zB, reduceCtorEq] at hc9)
 refine aZ ?_
 apply k4; clear k4; refine kp [1, 2, 3, 6, 7, 8, 9, 10, 18, 19, 20, 21] ?_
 refine ah fun _ k26 => ?_
 refine dn 1 rfl ?_; simp only [aJ, bz, zS, aa, and_self, and_true, true_and, and_false, false_and, if_true, if_false, eq_self, reduceCtorEq, Nat.one_ne_zero, Nat.zero_ne_one]
 have hkw : k = l.length := by omega
 have hun : unS m l a l.length = false := BT fun k2 j2 h1 h2 => hu k2 j2 (by omega) h2
 refine am hP hN rfl ?_
 iterate 5 (refine aj rfl fun _ k0 => ?_; simp only [zO, zT, acs, reduceCtorEq, aa, V, ad, ag, af, ae, Mly.av, ai]; (repeat refine an ?_); (try refine .inl ?_); apply k0; clear k0; simp only [zP, V])
 refine ao ?_
 apply k26; clear k26; refine kp [1, 2, 3, 6, 7, 8, 9, 10, 18, 19, 20, 21] ?_
 refine aE ?_
 refine ⟨nr, _, rfl, ?_⟩; simp only [zF, zP, aa, V, Mly.av, ai]
 first
 | (rw [hun]; exact bE ⟨aF (bo rfl), aF (.refl _), aF (.refl _), trivial⟩)
 | (rw [hun, hkw, aO]; exact VLE.of_eq rfl)
theorem qu (xs : List Int) (hx : lB xs) (hl : xs.length ≤ 1000000) : cb Try.prog 71 [.one (.list (.int .i64) xs)] (.one (.str (gG xs))) := by
 refine aT Try.func71 rfl (by kernel_rfl) (Nat.le_of_ble_eq_true rfl) rfl fun C hP hN hB => ?_
 replace hN : C.N = 23 := hN
 simp only [bc, V]
 refine ah fun _ k1 => ?_
 refine am hP hN rfl ?_
 (refine aj rfl fun _ k0 => ?_; simp only [zO, zT, acs, reduceCtorEq, aa, V, ad, ag, af, ae, f0]; (repeat refine an ?_); (try refine .inl ?_); apply k0; clear k0; simp only [zP, V])
 refine ao ?_
 apply k1; clear k1; refine kp [0, 2] ?_
 refine ah fun _ k2 => ?_
 refine am hP hN rfl ?_
 iterate 2 (refine aj rfl fun _ k0 => ?_; simp only [zO, zT, acs, reduceCtorEq, aa, V, ad, ag, af, ae, f0]; (repeat refine an ?_); (try refine .inl ?_); apply k0; clear k0; simp only [zP, V])
 (refine aj rfl fun _ k0 => ?_; simp only [zE, op1, ev, lkp, d7, ca, cq, fb, eB, cP, db, eH, Nat.div_one, cM, dg, Ty.size, bC, dite_true, cR, Ty.dflt, reduceCtorEq, aa, V, ad, ag, af, ae, Try.el129, Try.el41, Try.td129, Try.td3, Try.td41, f0]; (repeat refine an ?_); (try refine .inl ?_); apply k0; clear k0; simp only [zP, V])
 (refine aj rfl fun _ k0 => ?_; simp only [zO, zT, acs, reduceCtorEq, aa, V, ad, ag, af, ae, f0]; (repeat refine an ?_); (try refine .inl ?_); apply k0; clear k0; simp only [zP, V])
 refine ao ?_
 apply k2; clear k2; refine kp [0, 2, 3] ?_
 refine ah fun _ k3 => ?_
 refine ah fun _ k4 => ?_
 refine am hP hN rfl ?_
 iterate 3 (refine aj rfl fun _ k0 => ?_; simp only [zO, zT, acs, reduceCtorEq, aa, V, ad, ag, af, ae, f0]; (repeat refine an ?_); (try refine .inl ?_); apply k0; clear k0; simp only [zP, V])
 refine ao ?_
 apply k4; clear k4; refine kp [0, 2, 3, 9, 10, 11] ?_
 refine aD ?_
 refine bn (fun n5 s5 => ∃ (k : Nat) (v : Nat), (k ≤ xs.length) ∧ n5 = xs.length - k ∧ s5 = { env := [(2, .one (.str [])), (3, .one (.row 0 v)), (9, .one (.list (.int .i64) xs)), (10, .one (.int .i64 (xs.length : Int))), (11, .one (.int .i64 (k : Int)))], L := [.row (.int .u8) 5 v (xs.take k)] }) ?_ ?_
 ·exact ⟨_, _, aA [2, 3, 9, 10, 11], 0, 0, Nat.zero_le _, rfl, rfl⟩
 rintro n5 s5 ⟨k, v, hk, rfl, rfl⟩
 refine ah fun _ k6 => ?_
 refine am hP hN rfl ?_
 (refine aj rfl fun _ k0 => ?_; simp only [zO, zT, acs, reduceCtorEq, aa, V, ad, ag, af, ae, f0]; (repeat refine an ?_); (try refine .inl ?_); apply k0; clear k0; simp only [zP, V])
 refine ao ?_
 apply k6; clear k6; refine kp [2, 3, 9, 10, 11, 12] ?_
 refine ah fun _ k7 => ?_
 refine cd (fun hc8 => ?_) (fun hc8 => ?_)
 ·(try simp only [zB, reduceCtorEq] at hc8)
  refine ay ?_
  apply k7; clear k7; refine kp [2, 3, 9, 10, 11, 12] ?_
  refine ah fun _ k9 => ?_
  refine aD ?_
  refine ah fun _ k10 => ?_
  refine am hP hN rfl ?_
  iterate 3 (refine aj rfl fun _ k0 => ?_; simp only [zO, zT, acs, reduceCtorEq, aa, V, ad, ag, af, ae, f0]; (repeat refine an ?_); (try refine .inl ?_); apply k0; clear k0; simp only [zP, V])
  refine ao ?_
  apply k10; clear k10; refine kp [2, 3, 5, 9, 10, 11, 12] ?_
  have hxk := hx _ (br (w := xs) (i := k) (by omega))
  have htl : (xs.take k).length = k := by rw [List.length_take]; omega
  refine am hP hN rfl ?_
  iterate 2 (refine aj rfl fun _ k0 => ?_; simp only [zO, zT, acs, reduceCtorEq, aa, V, ad, ag, af, ae, f0]; (repeat refine an ?_); (try refine .inl ?_); apply k0; clear k0; simp only [zP, V])
  (refine aj rfl fun _ k0 => ?_; simp only [zE, op1, ev, lkp, d7, ca, gO, dS, cC, dL, rep, bC, bY, cr, Ty.size, cq, fb, eB, cP, db, eH, Nat.div_one, cM, dg, dite_true, reduceCtorEq, aa, V, ad, ag, af, ae, Try.el129, Try.td1, Try.td129, Try.td3, Try.td5, f0]; (repeat refine an ?_); (try refine .inl ?_); apply k0; clear k0; simp only [zP, V])
  iterate 3 (refine aj rfl fun _ k0 => ?_; simp only [zO, zT, acs, reduceCtorEq, aa, V, ad, ag, af, ae, f0]; (repeat refine an ?_); (try refine .inl ?_); apply k0; clear k0; simp only [zP, V])
  refine ao ?_
  apply k9; clear k9; refine kp [2, 3, 5, 9, 10, 11, 12] ?_
  refine am hP hN rfl ?_
  iterate 2 (refine aj rfl fun _ k0 => ?_; simp only [zO, zT, acs, reduceCtorEq, aa, V, ad, ag, af, ae, f0]; (repeat refine an ?_); (try refine .inl ?_); apply k0; clear k0; simp only [zP, V])
  refine ao ?_
  refine ⟨_, _, ?_, aA [2, 3, 9, 10, 11], k + 1, v + 1, by omega, rfl, ?_⟩
  · omega
  · rw [dc (by omega)]; rfl
 (try simp only [zB, reduceCtorEq] at hc8)
 refine aZ ?_
 apply k3; clear k3; refine kp [2, 3, 9, 10, 11, 12] ?_
 refine ah fun _ k11 => ?_
 refine dn 0 rfl ?_; simp only [aJ, bz, zS, aa, and_self, and_true, true_and, and_false, false_and, if_true, if_false, eq_self, reduceCtorEq, Nat.one_ne_zero, Nat.zero_ne_one]
 have hkw : k = xs.length := by omega
 rw [hkw, aO]
 refine am hP hN rfl ?_
 (refine aj rfl fun _ k0 => ?_; simp only [zO, zT, acs, reduceCtorEq, aa, V, ad, ag, af, ae, f0]; (repeat refine an ?_); (try refine .inl ?_); apply k0; clear k0; simp only [zP, V])
 (refine aj rfl fun _ k0 => ?_; simp only [zE, op1, ev, lkp, d7, ca, gO, reduceCtorEq, aa, V, ad, ag, af, ae, Try.el129, Try.td129, Try.td9, f0]; refine ⟨⟨_, _, rfl, Try.td5, rfl⟩, k0 _ ?_⟩; clear k0; simp only [zP, V])
 (refine aj rfl fun _ k0 => ?_; simp only [zO, zT, acs, reduceCtorEq, aa, V, ad, ag, af, ae, f0]; (repeat refine an ?_); (try refine .inl ?_); apply k0; clear k0; simp only [zP, V])
 refine ao ?_
 apply k11; clear k11; refine kp [2, 3, 9, 10, 11, 12] ?_
 refine aE ?_
 refine ⟨nr, _, rfl, ?_⟩; simp only [zF, zP, aa, V, f0]
 refine VLE.of_eq ?_
 rfl
set_option maxHeartbeats 1500000 in
theorem zD (m : Mly) (l : List Int) (hm : MOK m) (hs : dm m l) (hl : l.length ≤ 1000) : cb Try.prog 52 [m.av, .one (.list (.int .i64) l)] (.tup [.one (.list (.int .i64) ((fdW m l).getD [])), .one (.bool (fdW m l).isSome)]) := by
 refine aT Try.func52 rfl (by kernel_rfl) (Nat.le_of_ble_eq_true rfl) rfl fun C hP hN hB => ?_
 replace hN : C.N = 75 := hN
 simp only [bc, V]
 have hi1 := hm.i1; have hi2 := hm.i2
 have hks0 : (gG l).length ≤ 9223372036854775807 := by unfold gG; rw [aw]; omega
 refine ah fun _ k1 => ?_
 refine am hP hN rfl ?_
 iterate 3 (refine aj rfl fun _ k0 => ?_; simp only [zO, zT, acs, reduceCtorEq, aa, V, ad, ag, af, ae, Mly.av, ai, aw, bU, Option.map_some, AV.valOf]; (repeat refine And.intro (by first | omega | assumption | exact hks | exact hks0 | exact rfl) ?_); (try refine .inl ?_); apply k0; clear k0; simp only [zP, V])
 refine ao ?_
 apply k1; clear k1; refine kp [0, 1, 2, 4, 5] ?_
 refine ah fun _ k2 => ?_
 refine am hP hN rfl ?_
 (refine aj rfl fun _ k0 => ?_; simp only [zE, op1, ev, lkp, d7, ca, jz, reduceCtorEq, aa, V, ad, ag, af, ae, Try.el41, Try.mk115, Try.td41, Mly.av, ai, aw, bU, Option.map_some, AV.valOf]; (repeat refine And.intro (by first | omega | assumption | exact hks | exact hks0 | exact rfl) ?_); (try refine .inl ?_); apply k0; clear k0; simp only [zP, V])
 (refine aj rfl fun _ k0 => ?_; simp only [zO, zT, acs, reduceCtorEq, aa, V, ad, ag, af, ae, Mly.av, ai, aw, bU, Option.map_some, AV.valOf]; (repeat refine And.intro (by first | omega | assumption | exact hks | exact hks0 | exact rfl) ?_); (try refine .inl ?_); apply k0; clear k0; simp only [zP, V])
 refine aj rfl fun _ k0 => ?_
 refine aK (h := aC (qu l (fx hm hs) (by omega))) rfl rfl (by first | exact rfl | (simp only [ev, zP, aa, V]; exact rfl)) (by simp only [zV, acs, reduceCtorEq, aa, V, ad, ag, af, ae, Mly.av, ai, aw, bU, Option.map_some, AV.valOf]) ?_
 apply k0; clear k0; simp only [zP, V]
 (refine aj rfl fun _ k0 => ?_; simp only [zE, op1, ev, lkp, d7, ca, eY, bU, valOf, reduceCtorEq, aa, V, ad, ag, af, ae, Try.mk115, Mly.av, ai, aw, bU, Option.map_some, AV.valOf]; (repeat refine And.intro (by first | omega | assumption | exact hks | exact hks0 | exact rfl) ?_); (try refine .inl ?_); apply k0; clear k0; simp only [zP, V])
 iterate 2 (refine aj rfl fun _ k0 => ?_; simp only [zO, zT, acs, reduceCtorEq, aa, V, ad, ag, af, ae, Mly.av, ai, aw, bU, Option.map_some, AV.valOf]; (repeat refine And.intro (by first | omega | assumption | exact hks | exact hks0 | exact rfl) ?_); (try refine .inl ?_); apply k0; clear k0; simp only [zP, V])
 refine ao ?_
 apply k2; clear k2; refine kp [0, 1, 2, 4, 5, 6] ?_
 refine ah fun _ k3 => ?_
 refine am hP hN rfl ?_
 iterate 2 (refine aj rfl fun _ k0 => ?_; simp only [zO, zT, acs, reduceCtorEq, aa, V, ad, ag, af, ae, Mly.av, ai, aw, bU, Option.map_some, AV.valOf]; (repeat refine And.intro (by first | omega | assumption | exact hks | exact hks0 | exact rfl) ?_); (try refine .inl ?_); apply k0; clear k0; simp only [zP, V])
 (refine aj rfl fun _ k0 => ?_; simp only [zO, zT, acs, reduceCtorEq, aa, V, ad, ag, af, ae, Mly.av, ai, aw, bU, Option.map_some, AV.valOf]; (repeat refine And.intro (by first | omega | assumption | exact hks | exact hks0 | exact rfl) ?_); refine Or.inr (Or.inl (k0 _ ?_)); clear k0; simp only [zP, V])
 (refine aj rfl fun _ k0 => ?_; simp only [zO, zT, acs, reduceCtorEq, aa, V, ad, ag, af, ae, Mly.av, ai, aw, bU, Option.map_some, AV.valOf]; (repeat refine And.intro (by first | omega | assumption | exact hks | exact hks0 | exact rfl) ?_); (try refine .inl ?_); apply k0; clear k0; simp only [zP, V])
 refine ao ?_
 apply k3; clear k3; refine kp [0, 1, 2, 4, 5, 6, 7] ?_
 refine ah fun _ k4 => ?_
 refine ah fun _ k5 => ?_
 refine am hP hN rfl ?_
 (refine aj rfl fun _ k0 => ?_; simp only [zO, zT, acs, reduceCtorEq, aa, V, ad, ag, af, ae, Mly.av, ai, aw, bU, Option.map_some, AV.valOf]; (repeat refine And.intro (by first | omega | assumption | exact hks | exact hks0 | exact rfl) ?_); (try refine .inl ?_); apply k0; clear k0; simp only [zP, V])
 refine ao ?_
 apply k5; clear k5; refine kp [0, 1, 2, 4, 5, 6, 7, 8] ?_
 refine aD ?_
 refine bn (fun n6 s6 => ∃ (k : Nat) (v : Nat) (Q : List SS), (FQ m l.length Q) ∧ ((gD m (4097 - k) k ⟨Q, none⟩).res = m5 m l) ∧ n6 = 4097 - k ∧ s6 = { env := [(2, .one (.ptr 0 0 0 0)), (4, .one .nils), (5, .one (.bool false)), (6, .one (.mpv 1)), (7, .one (.row 2 v)), (8, .one (.int .i64 (k : Int)))], L := [.vars 24 [.int .i64 m.inp, .int .i64 m.st, .list (.list (.int .i64)) m.nx, .list (.list (.int .i64)) m.ot], .mp 115 .bool (esB Q), .row (.pair (.list (.int .i64)) (.pair (.list (.int .i64)) .unit)) 117 v (List.map pP Q)] }) ?_ ?_
 ·exact ⟨_, _, aA [2, 4, 5, 6, 7, 8], 0, 0, [(l, [])], FQ.one hs, rfl, rfl, rfl⟩
 rintro n6 s6 ⟨k, v, Q, hQ, hrun, rfl, rfl⟩
 refine ah fun _ k7 => ?_
 refine ah fun _ k8 => ?_
 refine am hP hN rfl ?_
 iterate 4 (refine aj rfl fun _ k0 => ?_; simp only [zO, zT, acs, reduceCtorEq, aa, V, ad, ag, af, ae, Mly.av, ai, aw, bU, Option.map_some, AV.valOf]; (repeat refine And.intro (by first | omega | assumption | exact hks | exact hks0 | exact rfl) ?_); (try refine .inl ?_); apply k0; clear k0; simp only [zP, V])
 refine ao ?_
 apply k8; clear k8; refine kp [2, 4, 5, 6, 7, 8, 24] ?_
 refine cd (fun hc9 => ?_) (fun hc9 => ?_)
 ·(try simp only [zB, reduceCtorEq] at hc9)
  refine ay ?_
  apply k7; clear k7; refine kp [2, 4, 5, 6, 7, 8, 24] ?_
  refine ah fun _ k10 => ?_
  refine aD ?_
  refine ah fun _ k11 => ?_
  refine am hP hN rfl ?_
  iterate 3 (refine aj rfl fun _ k0 => ?_; simp only [zO, zT, acs, reduceCtorEq, aa, V, ad, ag, af, ae, Mly.av, ai, aw, bU, Option.map_some, AV.valOf]; (repeat refine And.intro (by first | omega | assumption | exact hks | exact hks0 | exact rfl) ?_); (try refine .inl ?_); apply k0; clear k0; simp only [zP, V])
  refine ao ?_
  apply k11; clear k11; refine kp [2, 4, 5, 6, 7, 8, 24, 28, 29] ?_
  refine aD ?_
  have hkl : k < Q.length := by omega
  have hql := hQ.le
  refine bn (fun n12 s12 => ∃ (a : Nat) (v2 : Nat) (Q2 : List SS), ((a : Int) ≤ m.inp) ∧ (FQ m l.length Q2) ∧ (k < Q2.length) ∧ ((List.range a).foldl (dx m k) ⟨Q, none⟩ = ⟨Q2, none⟩) ∧ n12 = m.inp.toNat - a ∧ s12 = { env := [(2, .one (.ptr 0 0 0 0)), (4, .one .nils), (5, .one (.bool false)), (6, .one (.mpv 1)), (7, .one (.row 2 v2)), (8, .one (.int .i64 (k : Int))), (28, .one (.int .i64 m.inp)), (29, .one (.int .i64 (a : Int)))], L := [.vars 24 [.int .i64 m.inp, .int .i64 m.st, .list (.list (.int .i64)) m.nx, .list (.list (.int .i64)) m.ot], .mp 115 .bool (esB Q2), .row (.pair (.list (.int .i64)) (.pair (.list (.int .i64)) .unit)) 117 v2 (List.map pP Q2)] }) ?_ ?_
  ·have hi9 := hm.i1
   exact ⟨_, _, aA [2, 4, 5, 6, 7, 8, 28, 29], 0, v, Q, by omega, hQ, hkl, rfl, rfl, rfl⟩
  rintro n12 s12 ⟨a, v2, Q2, ha, hQ2, hk2, hf, rfl, rfl⟩
  refine ah fun _ k13 => ?_
  refine am hP hN rfl ?_
  (refine aj rfl fun _ k0 => ?_; simp only [zO, zT, acs, reduceCtorEq, aa, V, ad, ag, af, ae, Mly.av, ai, aw, bU, Option.map_some, AV.valOf]; (repeat refine And.intro (by first | omega | assumption | exact hks | exact hks0 | exact rfl) ?_); (try refine .inl ?_); apply k0; clear k0; simp only [zP, V])
  refine ao ?_
  apply k13; clear k13; refine kp [2, 4, 5, 6, 7, 8, 28, 29, 30] ?_
  refine ah fun _ k14 => ?_
  refine cd (fun hc15 => ?_) (fun hc15 => ?_)
  ·(try simp only [zB, reduceCtorEq] at hc15)
   refine ay ?_
   apply k14; clear k14; refine kp [2, 4, 5, 6, 7, 8, 28, 29, 30] ?_
   refine ah fun _ k16 => ?_
   refine aD ?_
   refine ah fun _ k17 => ?_
   refine am hP hN rfl ?_
   iterate 2 (refine aj rfl fun _ k0 => ?_; simp only [zO, zT, acs, reduceCtorEq, aa, V, ad, ag, af, ae, Mly.av, ai, aw, bU, Option.map_some, AV.valOf]; (repeat refine And.intro (by first | omega | assumption | exact hks | exact hks0 | exact rfl) ?_); (try refine .inl ?_); apply k0; clear k0; simp only [zP, V])
   refine ao ?_
   apply k17; clear k17; refine kp [2, 4, 5, 6, 7, 8, 9, 28, 29, 30] ?_
   refine ah fun _ k18 => ?_
   obtain ⟨hsb, hln, hwl⟩ := hQ2.at_ (i := k) (by omega)
   have hgi : ∀ d, (List.map pP Q2).getD k d = ((Q2.getD k ss0).1, ((Q2.getD k ss0).2, ())) := fun d => Bg (by omega) d
   have hkL : k < Q2.length := by omega
   have hnx := tA hm (a := (a : Int)) ⟨by omega, by omega⟩ hsb
   have hq2l := hQ2.le
   have hks : (gG (cO m (Q2.getD k ss0).1 (a : Int))).length ≤ 9223372036854775807 := by unfold gG; rw [aw]; omega
   have hlk := yE (Q := Q2) (fx hm hnx.1) (fun s h => fx hm (hQ2.st s h))
   refine bu hP hN Try.mixed rfl ?_
   iterate 7 (refine aj rfl fun _ k0 => ?_; simp only [zO, zT, acs, reduceCtorEq, aa, V, ad, ag, af, ae, Mly.av, ai, aw, bU, Option.map_some, AV.valOf, hgi]; (repeat refine And.intro (by first | omega | assumption | exact hks | exact hks0 | exact rfl) ?_); (try refine .inl ?_); apply k0; clear k0; simp only [zP, V])
   refine aj rfl fun _ k0 => ?_
   refine aK (h := aC (yu m (Q2.getD k ss0).1 (a : Int) hm hsb (by omega) (by omega))) rfl rfl (by first | exact rfl | (simp only [ev, zP, aa, V]; exact rfl)) (by simp only [zV, acs, reduceCtorEq, aa, V, ad, ag, af, ae, Mly.av, ai, aw, bU, Option.map_some, AV.valOf, hgi]) ?_
   apply k0; clear k0; simp only [zP, V]
   iterate 7 (refine aj rfl fun _ k0 => ?_; simp only [zO, zT, acs, reduceCtorEq, aa, V, ad, ag, af, ae, Mly.av, ai, aw, bU, Option.map_some, AV.valOf, hgi]; (repeat refine And.intro (by first | omega | assumption | exact hks | exact hks0 | exact rfl) ?_); (try refine .inl ?_); apply k0; clear k0; simp only [zP, V])
   refine ao ?_
   refine ⟨by kernel_rfl, ?_⟩
   apply k18; clear k18; refine kp [2, 4, 5, 6, 7, 8, 9, 10, 11, 12, 28, 29, 30] ?_
   refine ah fun _ k19 => ?_
   refine ah fun _ k20 => ?_
   refine am hP hN rfl ?_
   iterate 2 (refine aj rfl fun _ k0 => ?_; simp only [zO, zT, acs, reduceCtorEq, aa, V, ad, ag, af, ae, Mly.av, ai, aw, bU, Option.map_some, AV.valOf]; (repeat refine And.intro (by first | omega | assumption | exact hks | exact hks0 | exact rfl) ?_); (try refine .inl ?_); apply k0; clear k0; simp only [zP, V])
   refine ao ?_
   apply k20; clear k20; refine kp [2, 4, 5, 6, 7, 8, 9, 10, 11, 12, 28, 29, 30, 45] ?_
   refine cd (fun hc21 => ?_) (fun hc21 => ?_)
   ·(try simp only [zB, reduceCtorEq] at hc21)
    have hun : unS m (Q2.getD k ss0).1 a (Q2.getD k ss0).1.length = true := by simpa using hc21
    have hst := zx hun
    refine aZ ?_
    apply k16; clear k16; refine kp [2, 4, 5, 6, 7, 8, 9, 10, 11, 12, 28, 29, 30, 45] ?_
    refine am hP hN rfl ?_
    iterate 2 (refine aj rfl fun _ k0 => ?_; simp only [zO, zT, acs, reduceCtorEq, aa, V, ad, ag, af, ae, Mly.av, ai, aw, bU, Option.map_some, AV.valOf]; (repeat refine And.intro (by first | omega | assumption | exact hks | exact hks0 | exact rfl) ?_); (try refine .inl ?_); apply k0; clear k0; simp only [zP, V])
    refine ao ?_
    first
    | (refine ⟨_, _, ?_, aA [2, 4, 5, 6, 7, 8, 28, 29], a + 1, v2, Q2, by omega, hQ2, hk2, (jk hf).trans hst, rfl, rfl⟩
       omega)
    | (refine ⟨_, _, ?_, aA [2, 4, 5, 6, 7, 8, 28, 29], a + 1, v2 + 1, Q2 ++ [(fM m Q2 k a, eI Q2 k a)], by omega, hQ2.snoc hnx.1 (hnx.2.trans hln) (by unfold eI; rw [ar]; simp only [ax, aI]; omega) (by omega), by rw [ar]; omega, (jk hf).trans hst, rfl, ?_⟩
       · omega
       · rw [show esB (Q2 ++ [(fM m Q2 k a, eI Q2 k a)]) = _ from (qd (x := fM m Q2 k a) (w := eI Q2 k a) (fx hm hnx.1) (fun s h => fx hm (hQ2.st s h)) hps).symm, List.map_append]; rfl)
   (try simp only [zB, reduceCtorEq] at hc21)
   have hun : unS m (Q2.getD k ss0).1 a (Q2.getD k ss0).1.length = false := by simpa using hc21
   have hun2 : ¬ unS m (Q2.getD k ss0).1 a (Q2.getD k ss0).1.length = true := by rw [hun]; decide
   refine ay ?_
   apply k19; clear k19; refine kp [2, 4, 5, 6, 7, 8, 9, 10, 11, 12, 28, 29, 30, 45] ?_
   refine ah fun _ k22 => ?_
   rw [if_neg hun2]
   refine am hP hN rfl ?_
   iterate 5 (refine aj rfl fun _ k0 => ?_; simp only [zO, zT, acs, reduceCtorEq, aa, V, ad, ag, af, ae, Mly.av, ai, aw, bU, Option.map_some, AV.valOf, hgi]; (repeat refine And.intro (by first | omega | assumption | exact hks | exact hks0 | exact rfl) ?_); (try refine .inl ?_); apply k0; clear k0; simp only [zP, V])
   refine aj rfl fun _ k0 => ?_
   refine aK (h := jH (yM (Q2.getD k ss0).2 (by omega))) rfl rfl (by first | exact rfl | (simp only [ev, zP, aa, V]; exact rfl)) (by simp only [zV, acs, reduceCtorEq, aa, V, ad, ag, af, ae, Mly.av, ai, aw, bU, Option.map_some, AV.valOf, hgi]) ?_
   apply k0; clear k0; simp only [zP, V]
   iterate 4 (refine aj rfl fun _ k0 => ?_; simp only [zO, zT, acs, reduceCtorEq, aa, V, ad, ag, af, ae, Mly.av, ai, aw, bU, Option.map_some, AV.valOf, hgi]; (repeat refine And.intro (by first | omega | assumption | exact hks | exact hks0 | exact rfl) ?_); (try refine .inl ?_); apply k0; clear k0; simp only [zP, V])
   refine ao ?_
   apply k22; clear k22; refine kp [2, 4, 5, 6, 7, 8, 9, 10, 11, 12, 13, 28, 29, 30, 45] ?_
   refine ah fun _ k23 => ?_
   refine ah fun _ k24 => ?_
   refine dn 3 rfl ?_; simp only [aJ, bz, zS, aa, and_self, and_true, true_and, and_false, false_and, if_true, if_false, eq_self, reduceCtorEq, Nat.one_ne_zero, Nat.zero_ne_one]
   refine d8 (n := 3) (L1 := [_, _, _]) rfl rfl (by rw [hB]; decide) rfl rfl ?_
   refine am hP hN rfl ?_
   iterate 2 (refine aj rfl fun _ k0 => ?_; simp only [zO, zT, acs, reduceCtorEq, aa, V, ad, ag, af, ae, Mly.av, ai, aw, bU, Option.map_some, AV.valOf]; (repeat refine And.intro (by first | omega | assumption | exact hks | exact hks0 | exact rfl) ?_); (try refine .inl ?_); apply k0; clear k0; simp only [zP, V])
   refine ao ?_
   apply k24; clear k24; refine kp [2, 4, 5, 6, 7, 8, 9, 10, 11, 12, 13, 28, 29, 30, 45, 56] ?_
   refine cd (fun hc25 => ?_) (fun hc25 => ?_)
   ·(try simp only [zB, reduceCtorEq] at hc25)
    have hsm : smO m (Q2.getD k ss0).1 a (Q2.getD k ss0).1.length = false := by have h9 := hc25; rw [hun] at h9; simpa using h9
    have hfd := xO hrun hkl hQ.le (by omega) hf (by rw [xl hun hsm])
    refine ah fun _ k26 => ?_
    refine am hP hN rfl ?_
    iterate 3 (refine aj rfl fun _ k0 => ?_; simp only [zO, zT, acs, reduceCtorEq, aa, V, ad, ag, af, ae, Mly.av, ai, aw, bU, Option.map_some, AV.valOf]; (repeat refine And.intro (by first | omega | assumption | exact hks | exact hks0 | exact rfl) ?_); (try refine .inl ?_); apply k0; clear k0; simp only [zP, V])
    refine ao ?_
    apply k26; clear k26; refine kp [2, 4, 5, 6, 7, 8, 9, 10, 11, 12, 13, 28, 29, 30, 45, 56] ?_
    refine aE ?_
    refine ⟨nr, _, rfl, ?_⟩; simp only [zF, zP, aa, V, Mly.av, ai, aw, bU, Option.map_some, AV.valOf]
    rw [hfd]
    first
    | exact VLE.of_eq rfl
    | exact bE ⟨aF (bo rfl), aF (.refl _), trivial⟩
   (try simp only [zB, reduceCtorEq] at hc25)
   have hsm : smO m (Q2.getD k ss0).1 a (Q2.getD k ss0).1.length = true := by have h9 := hc25; rw [hun] at h9; simpa using h9
   refine ay ?_
   apply k23; clear k23; refine kp [2, 4, 5, 6, 7, 8, 9, 10, 11, 12, 13, 28, 29, 30, 45, 56] ?_
   refine ah fun _ k27 => ?_
   refine ah fun _ k28 => ?_
   refine am hP hN rfl ?_
   iterate 2 (refine aj rfl fun _ k0 => ?_; simp only [zO, zT, acs, reduceCtorEq, aa, V, ad, ag, af, ae, Mly.av, ai, aw, bU, Option.map_some, AV.valOf, hlk]; (repeat refine And.intro (by first | omega | assumption | exact hks | exact hks0 | exact rfl) ?_); (try refine .inl ?_); apply k0; clear k0; simp only [zP, V])
   refine aj rfl fun _ k0 => ?_
   refine aK (h := aC (qu (cO m (Q2.getD k ss0).1 (a : Int)) (fx hm hnx.1) (by omega))) rfl rfl (by first | exact rfl | (simp only [ev, zP, aa, V]; exact rfl)) (by simp only [zV, acs, reduceCtorEq, aa, V, ad, ag, af, ae, Mly.av, ai, aw, bU, Option.map_some, AV.valOf, hlk]) ?_
   apply k0; clear k0; simp only [zP, V]
   (refine aj rfl fun _ k0 => ?_; simp only [zE, op1, ev, lkp, d7, ca, kI, bU, VK.ac, reduceCtorEq, aa, V, ad, ag, af, ae, Try.mk115, Try.td4, Mly.av, ai, aw, bU, Option.map_some, AV.valOf, hlk]; (repeat refine And.intro (by first | omega | assumption | exact hks | exact hks0 | exact rfl) ?_); (try refine .inl ?_); apply k0; clear k0; simp only [zP, V])
   refine ao ?_
   apply k28; clear k28; refine kp [2, 4, 5, 6, 7, 8, 9, 10, 11, 12, 13, 28, 29, 30, 45, 56, 61] ?_
   refine cd (fun hc29 => ?_) (fun hc29 => ?_)
   ·(try simp only [zB, reduceCtorEq] at hc29)
    have hps : ez Q2 (fM m Q2 k a) < Q2.length := by have h9 := hc29; unfold fM; simpa using h9
    have hst := xc hun hsm hps
    refine aZ ?_
    apply k16; clear k16; refine kp [2, 4, 5, 6, 7, 8, 9, 10, 11, 12, 13, 28, 29, 30, 45, 56, 61] ?_
    refine am hP hN rfl ?_
    iterate 2 (refine aj rfl fun _ k0 => ?_; simp only [zO, zT, acs, reduceCtorEq, aa, V, ad, ag, af, ae, Mly.av, ai, aw, bU, Option.map_some, AV.valOf]; (repeat refine And.intro (by first | omega | assumption | exact hks | exact hks0 | exact rfl) ?_); (try refine .inl ?_); apply k0; clear k0; simp only [zP, V])
    refine ao ?_
    first
    | (refine ⟨_, _, ?_, aA [2, 4, 5, 6, 7, 8, 28, 29], a + 1, v2, Q2, by omega, hQ2, hk2, (jk hf).trans hst, rfl, rfl⟩
       omega)
    | (refine ⟨_, _, ?_, aA [2, 4, 5, 6, 7, 8, 28, 29], a + 1, v2 + 1, Q2 ++ [(fM m Q2 k a, eI Q2 k a)], by omega, hQ2.snoc hnx.1 (hnx.2.trans hln) (by unfold eI; rw [ar]; simp only [ax, aI]; omega) (by omega), by rw [ar]; omega, (jk hf).trans hst, rfl, ?_⟩
       · omega
       · rw [show esB (Q2 ++ [(fM m Q2 k a, eI Q2 k a)]) = _ from (qd (x := fM m Q2 k a) (w := eI Q2 k a) (fx hm hnx.1) (fun s h => fx hm (hQ2.st s h)) hps).symm, List.map_append]; rfl)
   (try simp only [zB, reduceCtorEq] at hc29)
   have hps : ¬ ez Q2 (fM m Q2 k a) < Q2.length := by have h9 := hc29; unfold fM; simpa using h9
   refine ay ?_
   apply k27; clear k27; refine kp [2, 4, 5, 6, 7, 8, 9, 10, 11, 12, 13, 28, 29, 30, 45, 56, 61] ?_
   refine ah fun _ k30 => ?_
   refine ah fun _ k31 => ?_
   refine am hP hN rfl ?_
   iterate 3 (refine aj rfl fun _ k0 => ?_; simp only [zO, zT, acs, reduceCtorEq, aa, V, ad, ag, af, ae, Mly.av, ai, aw, bU, Option.map_some, AV.valOf]; (repeat refine And.intro (by first | omega | assumption | exact hks | exact hks0 | exact rfl) ?_); (try refine .inl ?_); apply k0; clear k0; simp only [zP, V])
   refine ao ?_
   apply k31; clear k31; refine kp [2, 4, 5, 6, 7, 8, 9, 10, 11, 12, 13, 28, 29, 30, 45, 56, 61, 64] ?_
   refine cd (fun hc32 => ?_) (fun hc32 => ?_)
   ·(try simp only [zB, reduceCtorEq] at hc32)
    have hfd := xO hrun hkl hQ.le (by omega) hf (by rw [xf hun hsm hps (by omega)])
    refine ah fun _ k33 => ?_
    refine am hP hN rfl ?_
    iterate 2 (refine aj rfl fun _ k0 => ?_; simp only [zO, zT, acs, reduceCtorEq, aa, V, ad, ag, af, ae, Mly.av, ai, aw, bU, Option.map_some, AV.valOf]; (repeat refine And.intro (by first | omega | assumption | exact hks | exact hks0 | exact rfl) ?_); (try refine .inl ?_); apply k0; clear k0; simp only [zP, V])
    refine ao ?_
    apply k33; clear k33; refine kp [2, 4, 5, 6, 7, 8, 9, 10, 11, 12, 13, 28, 29, 30, 45, 56, 61, 64] ?_
    refine aE ?_
    refine ⟨nr, _, rfl, ?_⟩; simp only [zF, zP, aa, V, Mly.av, ai, aw, bU, Option.map_some, AV.valOf]
    rw [hfd]
    first
    | exact VLE.of_eq rfl
    | exact bE ⟨aF (bo rfl), aF (.refl _), trivial⟩
   (try simp only [zB, reduceCtorEq] at hc32)
   have hst := x4 hun hsm hps (by omega)
   refine ay ?_
   apply k30; clear k30; refine kp [2, 4, 5, 6, 7, 8, 9, 10, 11, 12, 13, 28, 29, 30, 45, 56, 61, 64] ?_
   refine ah fun _ k34 => ?_
   refine am hP hN rfl ?_
   iterate 2 (refine aj rfl fun _ k0 => ?_; simp only [zO, zT, acs, reduceCtorEq, aa, V, ad, ag, af, ae, Mly.av, ai, aw, bU, Option.map_some, AV.valOf]; (repeat refine And.intro (by first | omega | assumption | exact hks | exact hks0 | exact rfl) ?_); (try refine .inl ?_); apply k0; clear k0; simp only [zP, V])
   refine aj rfl fun _ k0 => ?_
   refine aK (h := aC (qu (cO m (Q2.getD k ss0).1 (a : Int)) (fx hm hnx.1) (by omega))) rfl rfl (by first | exact rfl | (simp only [ev, zP, aa, V]; exact rfl)) (by simp only [zV, acs, reduceCtorEq, aa, V, ad, ag, af, ae, Mly.av, ai, aw, bU, Option.map_some, AV.valOf]) ?_
   apply k0; clear k0; simp only [zP, V]
   (refine aj rfl fun _ k0 => ?_; simp only [zE, op1, ev, lkp, d7, ca, eY, bU, valOf, reduceCtorEq, aa, V, ad, ag, af, ae, Try.mk115, Mly.av, ai, aw, bU, Option.map_some, AV.valOf]; (repeat refine And.intro (by first | omega | assumption | exact hks | exact hks0 | exact rfl) ?_); (try refine .inl ?_); apply k0; clear k0; simp only [zP, V])
   refine ao ?_
   apply k34; clear k34; refine kp [2, 4, 5, 6, 7, 8, 9, 10, 11, 12, 13, 28, 29, 30, 45, 56, 61, 64] ?_
   refine am hP hN rfl ?_
   iterate 7 (refine aj rfl fun _ k0 => ?_; simp only [zO, zT, acs, reduceCtorEq, aa, V, ad, ag, af, ae, Mly.av, ai, aw, bU, Option.map_some, AV.valOf]; (repeat refine And.intro (by first | omega | assumption | exact hks | exact hks0 | exact rfl) ?_); (try refine .inl ?_); apply k0; clear k0; simp only [zP, V])
   refine ao ?_
   apply k16; clear k16; refine kp [2, 4, 5, 6, 7, 8, 9, 10, 11, 12, 13, 28, 29, 30, 45, 56, 61, 64] ?_
   refine am hP hN rfl ?_
   iterate 2 (refine aj rfl fun _ k0 => ?_; simp only [zO, zT, acs, reduceCtorEq, aa, V, ad, ag, af, ae, Mly.av, ai, aw, bU, Option.map_some, AV.valOf]; (repeat refine And.intro (by first | omega | assumption | exact hks | exact hks0 | exact rfl) ?_); (try refine .inl ?_); apply k0; clear k0; simp only [zP, V])
   refine ao ?_
   first
   | (refine ⟨_, _, ?_, aA [2, 4, 5, 6, 7, 8, 28, 29], a + 1, v2, Q2, by omega, hQ2, hk2, (jk hf).trans hst, rfl, rfl⟩
      omega)
   | (refine ⟨_, _, ?_, aA [2, 4, 5, 6, 7, 8, 28, 29], a + 1, v2 + 1, Q2 ++ [(fM m Q2 k a, eI Q2 k a)], by omega, hQ2.snoc hnx.1 (hnx.2.trans hln) (by unfold eI; rw [ar]; simp only [ax, aI]; omega) (by omega), by rw [ar]; omega, (jk hf).trans hst, rfl, ?_⟩
      · omega
      · rw [show esB (Q2 ++ [(fM m Q2 k a, eI Q2 k a)]) = _ from (qd (x := fM m Q2 k a) (w := eI Q2 k a) (fx hm hnx.1) (fun s h => fx hm (hQ2.st s h)) hps).symm, List.map_append]; rfl)
  (try simp only [zB, reduceCtorEq] at hc15)
  refine aZ ?_
  apply k10; clear k10; refine kp [2, 4, 5, 6, 7, 8, 28, 29, 30] ?_
  refine am hP hN rfl ?_
  iterate 3 (refine aj rfl fun _ k0 => ?_; simp only [zO, zT, acs, reduceCtorEq, aa, V, ad, ag, af, ae, Mly.av, ai, aw, bU, Option.map_some, AV.valOf]; (repeat refine And.intro (by first | omega | assumption | exact hks | exact hks0 | exact rfl) ?_); (try refine .inl ?_); apply k0; clear k0; simp only [zP, V])
  refine ao ?_
  refine ⟨_, _, ?_, aA [2, 4, 5, 6, 7, 8], k + 1, v2, Q2, hQ2, B3 hrun hkl hQ.le (by rw [show m.inp.toNat = a by omega]; exact hf), rfl, rfl⟩
  have := hQ.le
  omega
 (try simp only [zB, reduceCtorEq] at hc9)
 refine aZ ?_
 apply k4; clear k4; refine kp [2, 4, 5, 6, 7, 8, 24] ?_
 refine ah fun _ k35 => ?_
 have hfd := Cj hrun (by omega)
 refine am hP hN rfl ?_
 iterate 2 (refine aj rfl fun _ k0 => ?_; simp only [zO, zT, acs, reduceCtorEq, aa, V, ad, ag, af, ae, Mly.av, ai, aw, bU, Option.map_some, AV.valOf]; (repeat refine And.intro (by first | omega | assumption | exact hks | exact hks0 | exact rfl) ?_); (try refine .inl ?_); apply k0; clear k0; simp only [zP, V])
 refine ao ?_
 apply k35; clear k35; refine kp [2, 4, 5, 6, 7, 8, 24] ?_
 refine aE ?_
 refine ⟨nr, _, rfl, ?_⟩; simp only [zF, zP, aa, V, Mly.av, ai, aw, bU, Option.map_some, AV.valOf]
 rw [hfd]
 first
 | exact VLE.of_eq rfl
 | exact bE ⟨aF (bo rfl), aF (.refl _), trivial⟩
theorem xS (x : Int) : cb Try.prog 100 [.one (.int .i64 x)] (.one (.bool (xL x))) := by
 refine aT Try.func100 rfl (by kernel_rfl) (Nat.le_of_ble_eq_true rfl) rfl fun C hP hN hB => ?_
 replace hN : C.N = 6 := hN
 simp only [bc, V]
 refine ah fun _ k1 => ?_
 refine am hP hN rfl ?_
 (refine aj rfl fun _ k0 => ?_; simp only [zO, zT, acs, reduceCtorEq, aa, V, ad, ag, af, ae]; (repeat refine an ?_); (try refine .inl ?_); apply k0; clear k0; simp only [zP, V])
 refine ao ?_
 apply k1; clear k1; refine kp [0, 2] ?_
 refine ah fun _ k2 => ?_
 refine am hP hN rfl ?_
 iterate 4 (refine aj rfl fun _ k0 => ?_; simp only [zO, zT, acs, reduceCtorEq, aa, V, ad, ag, af, ae]; (repeat refine an ?_); (try refine .inl ?_); apply k0; clear k0; simp only [zP, V])
 refine ao ?_
 apply k2; clear k2; refine kp [0, 2] ?_
 refine aE ?_
 refine ⟨nr, _, rfl, ?_⟩; simp only [zF, zP, aa, V]
 refine VLE.of_eq ?_
 rw [p5]
theorem C1 (x y : Int) : cb Try.prog 85 [.one (.int .i64 x), .one (.int .i64 y)] (.one (.bool (decide (x < y)))) := by
 refine aT Try.func85 rfl (by kernel_rfl) (Nat.le_of_ble_eq_true rfl) rfl fun C hP hN hB => ?_
 replace hN : C.N = 17 := hN
 simp only [bc, V]
 refine ah fun _ k1 => ?_
 refine am hP hN rfl ?_
 (refine aj rfl fun _ k0 => ?_; simp only [zO, zT, acs, reduceCtorEq, aa, V, ad, ag, af, ae]; (repeat refine an ?_); (try refine .inl ?_); apply k0; clear k0; simp only [zP, V])
 refine ao ?_
 apply k1; clear k1; refine kp [0, 1, 4] ?_
 refine ah fun _ k2 => ?_
 refine am hP hN rfl ?_
 (refine aj rfl fun _ k0 => ?_; simp only [zO, zT, acs, reduceCtorEq, aa, V, ad, ag, af, ae]; (repeat refine an ?_); (try refine .inl ?_); apply k0; clear k0; simp only [zP, V])
 refine aj rfl fun _ k0 => ?_
 refine aK (h := aC (xS x)) rfl rfl (by first | exact rfl | (simp only [ev, zP, aa, V]; exact rfl)) (by simp only [zV, acs, reduceCtorEq, aa, V, ad, ag, af, ae]) ?_
 apply k0; clear k0; simp only [zP, V]
 (refine aj rfl fun _ k0 => ?_; simp only [zO, zT, acs, reduceCtorEq, aa, V, ad, ag, af, ae]; (repeat refine an ?_); (try refine .inl ?_); apply k0; clear k0; simp only [zP, V])
 refine' aR (want := true) 3 rfl (m := 7) (by simp only [zP, aa, V]; exact rfl) (by kernel_rfl) rfl rfl rfl rfl rfl (fun hg3 => ?a3) ?b3 ?c3
 case a3 =>
  have hq3 := hg3; (try simp only [zB, reduceCtorEq] at hg3); simp only [zE]
  (refine bp rfl fun _ k0 => ?_; simp only [zO, zT, acs, reduceCtorEq, aa, V, ad, ag, af, ae]; (repeat refine an ?_); (try refine .inl ?_); apply k0; clear k0; simp only [zP, V])
  refine bp rfl fun _ k0 => ?_
  refine aK (h := aC (xS y)) rfl rfl (by first | exact rfl | (simp only [ev, zP, aa, V]; exact rfl)) (by simp only [zV, acs, reduceCtorEq, aa, V, ad, ag, af, ae]) ?_
  apply k0; clear k0; simp only [zP, V]
  (refine bp rfl fun _ k0 => ?_; simp only [zO, zT, acs, reduceCtorEq, aa, V, ad, ag, af, ae]; (repeat refine an ?_); (try refine .inl ?_); apply k0; clear k0; simp only [zP, V])
  (refine aj rfl fun _ k0 => ?_; simp only [zO, zT, acs, reduceCtorEq, aa, V, ad, ag, af, ae]; (repeat refine an ?_); (try refine .inl ?_); apply k0; clear k0; simp only [zP, V])
  refine ao ?_
  refine ⟨by simp only [zP, aa, V]; exact rfl, rfl, ?_, rfl⟩; (repeat refine aS rfl ?_); exact bB (by exact rfl) hq3
 case b3 => exact cD
 simp only [bh, aY]
 (refine aj rfl fun _ k0 => ?_; simp only [zO, zT, acs, reduceCtorEq, aa, V, ad, ag, af, ae]; (repeat refine an ?_); (try refine .inl ?_); apply k0; clear k0; simp only [zP, V])
 refine' aR (want := false) 3 rfl (m := 12) (by simp only [zP, aa, V]; exact rfl) (by kernel_rfl) rfl rfl rfl rfl rfl (fun hg4 => ?a4) ?b4 ?c4
 case a4 =>
  have hq4 := hg4; (try simp only [zB, reduceCtorEq] at hg4); simp only [zE]
  iterate 3 (refine bp rfl fun _ k0 => ?_; simp only [zO, zT, acs, reduceCtorEq, aa, V, ad, ag, af, ae]; (repeat refine an ?_); (try refine .inl ?_); apply k0; clear k0; simp only [zP, V])
  (refine aj rfl fun _ k0 => ?_; simp only [zO, zT, acs, reduceCtorEq, aa, V, ad, ag, af, ae]; (repeat refine an ?_); (try refine .inl ?_); apply k0; clear k0; simp only [zP, V])
  refine ao ?_
  refine ⟨by simp only [zP, aa, V]; exact rfl, rfl, ?_, rfl⟩; (repeat refine aS rfl ?_); exact bB (by exact rfl) hq4
 case b4 => exact cD
 simp only [bh, aY]
 (refine aj rfl fun _ k0 => ?_; simp only [zO, zT, acs, reduceCtorEq, aa, V, ad, ag, af, ae]; (repeat refine an ?_); (try refine .inl ?_); apply k0; clear k0; simp only [zP, V])
 refine ao ?_
 apply k2; clear k2; refine kp [0, 1, 4] ?_
 refine aE ?_
 refine ⟨nr, _, rfl, ?_⟩; simp only [zF, zP, aa, V]
 refine VLE.of_eq ?_
 refine congrArg (fun b => AV.one (AC.bool b)) ?_
 simp [p5]
theorem x5 (x : Int) : cb Try.prog 86 [.one (.int .i64 x)] (.one (.bool (xL x))) := by
 refine aT Try.func86 rfl (by kernel_rfl) (Nat.le_of_ble_eq_true rfl) rfl fun C hP hN hB => ?_
 replace hN : C.N = 6 := hN
 simp only [bc, V]
 refine ah fun _ k1 => ?_
 refine am hP hN rfl ?_
 (refine aj rfl fun _ k0 => ?_; simp only [zO, zT, acs, reduceCtorEq, aa, V, ad, ag, af, ae]; (repeat refine an ?_); (try refine .inl ?_); apply k0; clear k0; simp only [zP, V])
 refine ao ?_
 apply k1; clear k1; refine kp [0, 2] ?_
 refine ah fun _ k2 => ?_
 refine am hP hN rfl ?_
 iterate 4 (refine aj rfl fun _ k0 => ?_; simp only [zO, zT, acs, reduceCtorEq, aa, V, ad, ag, af, ae]; (repeat refine an ?_); (try refine .inl ?_); apply k0; clear k0; simp only [zP, V])
 refine ao ?_
 apply k2; clear k2; refine kp [0, 2] ?_
 refine aE ?_
 refine ⟨nr, _, rfl, ?_⟩; simp only [zF, zP, aa, V]
 refine VLE.of_eq ?_
 rw [p5]
theorem wg (xs : List Int) (o : Int) (hx : xs.Pairwise (· < ·)) (ho : o ∈ xs) (hl : xs.length ≤ 1000000) : cb Try.prog 75 [.one (.list (.int .i64) xs), .one (.int .i64 o)] (.tup [.one (.int .i64 (pos xs o : Int)), .one (.bool true)]) := by
 refine aT Try.func75 rfl (by kernel_rfl) (Nat.le_of_ble_eq_true rfl) rfl fun C hP hN hB => ?_
 replace hN : C.N = 54 := hN
 simp only [bc, V]
 refine ah fun _ k1 => ?_
 refine am hP hN rfl ?_
 iterate 2 (refine aj rfl fun _ k0 => ?_; simp only [zO, zT, acs, reduceCtorEq, aa, V, ad, ag, af, ae, d5, Int.toNat_one, Int.reducePow, Int.reduceToNat]; (repeat refine an ?_); (try refine .inl ?_); apply k0; clear k0; simp only [zP, V])
 refine ao ?_
 apply k1; clear k1; refine kp [0, 1, 4, 5] ?_
 refine ah fun _ k2 => ?_
 refine am hP hN rfl ?_
 iterate 3 (refine aj rfl fun _ k0 => ?_; simp only [zO, zT, acs, reduceCtorEq, aa, V, ad, ag, af, ae, d5, Int.toNat_one, Int.reducePow, Int.reduceToNat]; (repeat refine an ?_); (try refine .inl ?_); apply k0; clear k0; simp only [zP, V])
 refine ao ?_
 apply k2; clear k2; refine kp [0, 1, 4, 5, 6] ?_
 refine ah fun _ k3 => ?_
 refine am hP hN rfl ?_
 iterate 3 (refine aj rfl fun _ k0 => ?_; simp only [zO, zT, acs, reduceCtorEq, aa, V, ad, ag, af, ae, d5, Int.toNat_one, Int.reducePow, Int.reduceToNat]; (repeat refine an ?_); (try refine .inl ?_); apply k0; clear k0; simp only [zP, V])
 refine ao ?_
 apply k3; clear k3; refine kp [0, 1, 4, 5, 6, 7, 8] ?_
 refine ah fun _ k4 => ?_
 refine aD ?_
 refine bn (fun n5 s5 => ∃ (lo hi : Nat), (lo ≤ hi ∧ hi ≤ xs.length) ∧ (∀ q, q < lo → xs.getD q 0 < o) ∧ (∀ q, hi ≤ q → q < xs.length → o ≤ xs.getD q 0) ∧ n5 = hi - lo ∧ s5 = { env := [(0, .one (.list (.int .i64) xs)), (1, .one (.int .i64 o)), (4, .one (.int .i64 0)), (5, .one (.bool false)), (6, .one (.int .i64 (xs.length : Int))), (7, .one (.int .i64 (lo : Int))), (8, .one (.int .i64 (hi : Int)))], L := [] }) ?_ ?_
 ·exact ⟨_, _, aA [0, 1, 4, 5, 6, 7, 8], 0, xs.length, ⟨Nat.zero_le _, Nat.le_refl _⟩, fun q h => by omega, fun q h h2 => by omega, rfl, rfl⟩
 rintro n5 s5 ⟨lo, hi, hlo, h1, h2, rfl, rfl⟩
 refine ah fun _ k6 => ?_
 refine ah fun _ k7 => ?_
 refine am hP hN rfl ?_
 iterate 3 (refine aj rfl fun _ k0 => ?_; simp only [zO, zT, acs, reduceCtorEq, aa, V, ad, ag, af, ae, d5, Int.toNat_one, Int.reducePow, Int.reduceToNat]; (repeat refine an ?_); (try refine .inl ?_); apply k0; clear k0; simp only [zP, V])
 refine ao ?_
 apply k7; clear k7; refine kp [0, 1, 4, 5, 6, 7, 8, 15] ?_
 refine cd (fun hc8 => ?_) (fun hc8 => ?_)
 ·(try simp only [zB, reduceCtorEq] at hc8)
  refine ay ?_
  apply k6; clear k6; refine kp [0, 1, 4, 5, 6, 7, 8, 15] ?_
  refine aD ?_
  refine ah fun _ k9 => ?_
  refine am hP hN rfl ?_
  iterate 3 (refine aj rfl fun _ k0 => ?_; simp only [zO, zT, acs, reduceCtorEq, aa, V, ad, ag, af, ae, d5, Int.toNat_one, Int.reducePow, Int.reduceToNat]; (repeat refine an ?_); (try refine .inl ?_); apply k0; clear k0; simp only [zP, V])
  (refine aj rfl fun _ k0 => ?_; simp only [zE, op1, ev, lkp, d7, ca, jv, d9, ge, iF, fC, i8, gO, reduceCtorEq, aa, V, ad, ag, af, ae, Try.td132, Try.td3, d5, Int.toNat_one, Int.reducePow, Int.reduceToNat]; (repeat refine an ?_); (try refine .inl ?_); apply k0; clear k0; simp only [zP, V])
  (refine aj rfl fun _ k0 => ?_; simp only [zO, zT, acs, reduceCtorEq, aa, V, ad, ag, af, ae, d5, Int.toNat_one, Int.reducePow, Int.reduceToNat]; (repeat refine an ?_); (try refine .inl ?_); apply k0; clear k0; simp only [zP, V])
  (refine aj rfl fun _ k0 => ?_; simp only [zE, op1, ev, lkp, d7, ca, jv, d9, ge, iF, fC, i8, gO, reduceCtorEq, aa, V, ad, ag, af, ae, Try.td132, Try.td3, d5, Int.toNat_one, Int.reducePow, Int.reduceToNat]; (repeat refine an ?_); (try refine .inl ?_); apply k0; clear k0; simp only [zP, V])
  (refine aj rfl fun _ k0 => ?_; simp only [zO, zT, acs, reduceCtorEq, aa, V, ad, ag, af, ae, d5, Int.toNat_one, Int.reducePow, Int.reduceToNat]; (repeat refine an ?_); (try refine .inl ?_); apply k0; clear k0; simp only [zP, V])
  refine ao ?_
  apply k9; clear k9; refine kp [0, 1, 4, 5, 6, 7, 8, 9, 15] ?_
  refine ah fun _ k10 => ?_
  have hmid : ((lo : Int) + (hi : Int)) / 2 = (((lo + hi) / 2) : Nat) := by omega
  rw [hmid]
  have hml : ((lo + hi) / 2) < xs.length := by omega
  refine am hP hN rfl ?_
  iterate 5 (refine aj rfl fun _ k0 => ?_; simp only [zO, zT, acs, reduceCtorEq, aa, V, ad, ag, af, ae, d5, Int.toNat_one, Int.reducePow, Int.reduceToNat]; (repeat refine an ?_); (try refine .inl ?_); apply k0; clear k0; simp only [zP, V])
  refine aj rfl fun _ k0 => ?_
  refine aK (h := aC (C1 (xs.getD ((lo + hi) / 2) 0) o)) rfl rfl (by first | exact rfl | (simp only [ev, zP, aa, V]; exact rfl)) (by simp only [zV, acs, reduceCtorEq, aa, V, ad, ag, af, ae, d5, Int.toNat_one, Int.reducePow, Int.reduceToNat]) ?_
  apply k0; clear k0; simp only [zP, V]
  refine ao ?_
  apply k10; clear k10; refine kp [0, 1, 4, 5, 6, 7, 8, 9, 15, 27] ?_
  refine cd (fun hc11 => ?_) (fun hc11 => ?_)
  ·(try simp only [zB, reduceCtorEq] at hc11)
   have hv : xs.getD ((lo + hi) / 2) 0 < o := by simpa using hc11
   refine am hP hN rfl ?_
   iterate 3 (refine aj rfl fun _ k0 => ?_; simp only [zO, zT, acs, reduceCtorEq, aa, V, ad, ag, af, ae, d5, Int.toNat_one, Int.reducePow, Int.reduceToNat]; (repeat refine an ?_); (try refine .inl ?_); apply k0; clear k0; simp only [zP, V])
   refine ao ?_
   first
   | (refine ⟨_, _, ?_, aA [0, 1, 4, 5, 6, 7, 8], ((lo + hi) / 2) + 1, hi, ⟨by omega, hlo.2⟩, qX hx hml hv, h2, rfl, rfl⟩
      omega)
   | (refine ⟨_, _, ?_, aA [0, 1, 4, 5, 6, 7, 8], lo, ((lo + hi) / 2), ⟨by omega, by omega⟩, h1, pa hx hml hv, rfl, rfl⟩
      omega)
  (try simp only [zB, reduceCtorEq] at hc11)
  have hv : ¬ xs.getD ((lo + hi) / 2) 0 < o := by simpa using hc11
  refine am hP hN rfl ?_
  iterate 2 (refine aj rfl fun _ k0 => ?_; simp only [zO, zT, acs, reduceCtorEq, aa, V, ad, ag, af, ae, d5, Int.toNat_one, Int.reducePow, Int.reduceToNat]; (repeat refine an ?_); (try refine .inl ?_); apply k0; clear k0; simp only [zP, V])
  refine ao ?_
  first
  | (refine ⟨_, _, ?_, aA [0, 1, 4, 5, 6, 7, 8], ((lo + hi) / 2) + 1, hi, ⟨by omega, hlo.2⟩, qX hx hml hv, h2, rfl, rfl⟩
     omega)
  | (refine ⟨_, _, ?_, aA [0, 1, 4, 5, 6, 7, 8], lo, ((lo + hi) / 2), ⟨by omega, by omega⟩, h1, pa hx hml hv, rfl, rfl⟩
     omega)
 (try simp only [zB, reduceCtorEq] at hc8)
 refine aZ ?_
 apply k4; clear k4; refine kp [0, 1, 4, 5, 6, 7, 8, 15] ?_
 refine ah fun _ k12 => ?_
 have hlh : lo = hi := by omega
 obtain ⟨hpz, hgz, hlz⟩ := BM hx ho h1 (by rw [hlh]; exact h2)
 refine am hP hN rfl ?_
 iterate 5 (refine aj rfl fun _ k0 => ?_; simp only [zO, zT, acs, reduceCtorEq, aa, V, ad, ag, af, ae, d5, Int.toNat_one, Int.reducePow, Int.reduceToNat]; (repeat refine an ?_); (try refine .inl ?_); apply k0; clear k0; simp only [zP, V])
 refine' aR (want := true) 17 rfl (m := 35) (by simp only [zP, aa, V]; exact rfl) (by kernel_rfl) rfl rfl rfl rfl rfl (fun hg13 => ?a13) ?b13 ?c13
 case a13 =>
  have hq13 := hg13; (try simp only [zB, reduceCtorEq] at hg13); simp only [zE]
  iterate 7 (refine bp rfl fun _ k0 => ?_; simp only [zO, zT, acs, reduceCtorEq, aa, V, ad, ag, af, ae, d5, Int.toNat_one, Int.reducePow, Int.reduceToNat]; (repeat refine an ?_); (try refine .inl ?_); apply k0; clear k0; simp only [zP, V])
  refine' aR (want := false) 9 rfl (m := 42) (by simp only [zP, aa, V]; exact rfl) (by kernel_rfl) rfl rfl rfl rfl rfl (fun hg14 => ?a14) ?b14 ?c14
  case a14 =>
   have hq14 := hg14; (try simp only [zB, reduceCtorEq] at hg14); simp only [zE]
   iterate 4 (refine bp rfl fun _ k0 => ?_; simp only [zO, zT, acs, reduceCtorEq, aa, V, ad, ag, af, ae, d5, Int.toNat_one, Int.reducePow, Int.reduceToNat]; (repeat refine an ?_); (try refine .inl ?_); apply k0; clear k0; simp only [zP, V])
   refine bp rfl fun _ k0 => ?_
   refine aK (h := aC (x5 (xs.getD lo 0))) rfl rfl (by first | exact rfl | (simp only [ev, zP, aa, V]; exact rfl)) (by simp only [zV, acs, reduceCtorEq, aa, V, ad, ag, af, ae, d5, Int.toNat_one, Int.reducePow, Int.reduceToNat]) ?_
   apply k0; clear k0; simp only [zP, V]
   (refine bp rfl fun _ k0 => ?_; simp only [zO, zT, acs, reduceCtorEq, aa, V, ad, ag, af, ae, d5, Int.toNat_one, Int.reducePow, Int.reduceToNat]; (repeat refine an ?_); (try refine .inl ?_); apply k0; clear k0; simp only [zP, V])
   refine' aR (want := true) 2 rfl (m := 48) (by simp only [zP, aa, V]; exact rfl) (by kernel_rfl) rfl rfl rfl rfl rfl (fun hg15 => ?a15) ?b15 ?c15
   case a15 =>
    have hq15 := hg15; (try simp only [zB, reduceCtorEq] at hg15); simp only [zE]
    (refine bp rfl fun _ k0 => ?_; simp only [zO, zT, acs, reduceCtorEq, aa, V, ad, ag, af, ae, d5, Int.toNat_one, Int.reducePow, Int.reduceToNat]; (repeat refine an ?_); (try refine .inl ?_); apply k0; clear k0; simp only [zP, V])
    refine bp rfl fun _ k0 => ?_
    refine aK (h := aC (x5 o)) rfl rfl (by first | exact rfl | (simp only [ev, zP, aa, V]; exact rfl)) (by simp only [zV, acs, reduceCtorEq, aa, V, ad, ag, af, ae, d5, Int.toNat_one, Int.reducePow, Int.reduceToNat]) ?_
    apply k0; clear k0; simp only [zP, V]
    (refine bp rfl fun _ k0 => ?_; simp only [zO, zT, acs, reduceCtorEq, aa, V, ad, ag, af, ae, d5, Int.toNat_one, Int.reducePow, Int.reduceToNat]; (repeat refine an ?_); (try refine .inl ?_); apply k0; clear k0; simp only [zP, V])
    refine ao ?_
    refine ⟨by simp only [zP, aa, V]; exact rfl, rfl, ?_, rfl⟩; (repeat refine aS rfl ?_); exact bB (by exact rfl) hq15
   case b15 => exact cD
   simp only [bh, aY]
   (refine bp rfl fun _ k0 => ?_; simp only [zO, zT, acs, reduceCtorEq, aa, V, ad, ag, af, ae, d5, Int.toNat_one, Int.reducePow, Int.reduceToNat]; (repeat refine an ?_); (try refine .inl ?_); apply k0; clear k0; simp only [zP, V])
   refine ao ?_
   refine ⟨by simp only [zP, aa, V]; exact rfl, rfl, ?_, rfl⟩; (repeat refine aS rfl ?_); exact bB (by exact rfl) hq14
  case b14 => exact cD
  simp only [bh, aY]
  (refine aj rfl fun _ k0 => ?_; simp only [zO, zT, acs, reduceCtorEq, aa, V, ad, ag, af, ae, d5, Int.toNat_one, Int.reducePow, Int.reduceToNat]; (repeat refine an ?_); (try refine .inl ?_); apply k0; clear k0; simp only [zP, V])
  refine ao ?_
  refine ⟨by simp only [zP, aa, V]; exact rfl, rfl, ?_, rfl⟩; (repeat refine aS rfl ?_); exact bB (by exact rfl) hq13
 case b13 => exact cD
 simp only [bh, aY]
 iterate 2 (refine aj rfl fun _ k0 => ?_; simp only [zO, zT, acs, reduceCtorEq, aa, V, ad, ag, af, ae, d5, Int.toNat_one, Int.reducePow, Int.reduceToNat]; (repeat refine an ?_); (try refine .inl ?_); apply k0; clear k0; simp only [zP, V])
 refine ao ?_
 apply k12; clear k12; refine kp [0, 1, 4, 5, 6, 7, 8, 15] ?_
 refine aE ?_
 refine ⟨nr, _, rfl, ?_⟩; simp only [zF, zP, aa, V, d5, Int.toNat_one, Int.reducePow, Int.reduceToNat]
 refine VLE.of_eq ?_
 simp only [hgz]
 simp [hlz, ← hpz, p5]
open Go.Shelf in
def Try.laysNm220_ren : Go.Shelf.Ren := ⟨fun | 20 => 74 | n => n, fun | 22 => 41 | 3 => 3 | 4 => 4 | 0 => 0 | n => n, fun | n => n⟩
theorem Try.laysNm220 : Go.Proofs.Lays2.n20 Try.prog Try.laysNm220_ren := {
  mixed := by kernel_rfl,
  f20 := Try.func74.trans (congrArg some (by kernel_rfl)),
  t0 := Try.underlying0,
  a0 := Try.isAgg0,
  z0 := Try.sizeOf0,
  v0 := Try.zeroValue0,
  t3 := Try.underlying3,
  a3 := Try.isAgg3,
  z3 := Try.sizeOf3,
  v3 := Try.zeroValue3,
  t4 := Try.underlying4,
  a4 := Try.isAgg4,
  z4 := Try.sizeOf4,
  v4 := Try.zeroValue4,
  t22 := Try.underlying41,
  a22 := Try.isAgg41,
  z22 := Try.sizeOf41,
  v22 := Try.zeroValue41,
  i3 := by kernel_rfl }
theorem nV : sX Try.prog 74 := ⟨⟨Try.f74, Try.func74, by kernel_rfl, by kernel_rfl⟩, fun blk off cap zs w hH hb hz => Any.slices_Compact_int Try.laysNm220 blk off cap zs w hH hb hz⟩
open Go.Shelf in
def Try.lays189_ren : Go.Shelf.Ren := ⟨fun | 189 => 73 | 125 => 84 | 257 => 83 | 128 => 98 | 129 => 99 | 294 => 90 | 295 => 91 | 296 => 92 | 297 => 93 | 298 => 94 | 299 => 95 | 216 => 85 | 300 => 96 | 301 => 97 | 328 => 103 | 329 => 104 | 330 => 105 | 331 => 106 | 332 => 107 | 215 => 100 | 343 => 109 | n => n, fun | 28 => 41 | 3 => 3 | 46 => 132 | 0 => 0 | 51 => 144 | 53 => 146 | 4 => 4 | 183 => 138 | 182 => 137 | 131 => 69 | 5 => 5 | 9 => 9 | 218 => 148 | 222 => 152 | 228 => 155 | 229 => 104 | n => n, fun | n => n⟩
theorem Try.lays189 : Go.Proofs.Lays.n189 Try.prog Try.lays189_ren := {
  mixed := by kernel_rfl,
  f125 := Try.func84.trans (congrArg some (by kernel_rfl)),
  f128 := Try.func98.trans (congrArg some (by kernel_rfl)),
  f129 := Try.func99.trans (congrArg some (by kernel_rfl)),
  f189 := Try.func73.trans (congrArg some (by kernel_rfl)),
  f215 := Try.func100.trans (congrArg some (by kernel_rfl)),
  f216 := Try.func85.trans (congrArg some (by kernel_rfl)),
  f257 := Try.func83.trans (congrArg some (by kernel_rfl)),
  f294 := Try.func90.trans (congrArg some (by kernel_rfl)),
  f295 := Try.func91.trans (congrArg some (by kernel_rfl)),
  f296 := Try.func92.trans (congrArg some (by kernel_rfl)),
  f297 := Try.func93.trans (congrArg some (by kernel_rfl)),
  f298 := Try.func94.trans (congrArg some (by kernel_rfl)),
  f299 := Try.func95.trans (congrArg some (by kernel_rfl)),
  f300 := Try.func96.trans (congrArg some (by kernel_rfl)),
  f301 := Try.func97.trans (congrArg some (by kernel_rfl)),
  f328 := Try.func103.trans (congrArg some (by kernel_rfl)),
  f329 := Try.func104.trans (congrArg some (by kernel_rfl)),
  f330 := Try.func105.trans (congrArg some (by kernel_rfl)),
  f331 := Try.func106.trans (congrArg some (by kernel_rfl)),
  f332 := Try.func107.trans (congrArg some (by kernel_rfl)),
  f343 := Try.func109.trans (congrArg some (by kernel_rfl)),
  t0 := Try.underlying0,
  a0 := Try.isAgg0,
  z0 := Try.sizeOf0,
  v0 := Try.zeroValue0,
  t3 := Try.underlying3,
  a3 := Try.isAgg3,
  z3 := Try.sizeOf3,
  v3 := Try.zeroValue3,
  t4 := Try.underlying4,
  a4 := Try.isAgg4,
  z4 := Try.sizeOf4,
  v4 := Try.zeroValue4,
  t5 := Try.underlying5,
  a5 := Try.isAgg5,
  z5 := Try.sizeOf5,
  v5 := Try.zeroValue5,
  t9 := Try.underlying9,
  a9 := Try.isAgg9,
  z9 := Try.sizeOf9,
  v9 := Try.zeroValue9,
  t28 := Try.underlying41,
  a28 := Try.isAgg41,
  z28 := Try.sizeOf41,
  v28 := Try.zeroValue41,
  t46 := Try.underlying132,
  a46 := Try.isAgg132,
  z46 := Try.sizeOf132,
  v46 := Try.zeroValue132,
  t51 := Try.underlying144,
  a51 := Try.isAgg144,
  z51 := Try.sizeOf144,
  v51 := Try.zeroValue144,
  t53 := Try.underlying146,
  a53 := Try.isAgg146,
  z53 := Try.sizeOf146,
  v53 := Try.zeroValue146,
  t131 := Try.underlying69,
  a131 := Try.isAgg69,
  z131 := Try.sizeOf69,
  v131 := Try.zeroValue69,
  t182 := Try.underlying137,
  a182 := Try.isAgg137,
  z182 := Try.sizeOf137,
  v182 := Try.zeroValue137,
  t183 := Try.underlying138,
  a183 := Try.isAgg138,
  z183 := Try.sizeOf138,
  v183 := Try.zeroValue138,
  t218 := Try.underlying148,
  a218 := Try.isAgg148,
  z218 := Try.sizeOf148,
  v218 := Try.zeroValue148,
  t222 := Try.underlying152,
  a222 := Try.isAgg152,
  z222 := Try.sizeOf152,
  v222 := Try.zeroValue152,
  t228 := Try.underlying155,
  a228 := Try.isAgg155,
  z228 := Try.sizeOf155,
  v228 := Try.zeroValue155,
  t229 := Try.underlying104,
  a229 := Try.isAgg104,
  z229 := Try.sizeOf104,
  v229 := Try.zeroValue104 }
theorem uf : AK Try.prog 73 := ⟨⟨Try.f73, Try.func73, by kernel_rfl, by kernel_rfl⟩, fun blk off cap zs w hH hb hz => Any.slices_Sort_int Try.lays189 blk off cap zs w hH hb hz⟩
set_option maxHeartbeats 2500000 in
theorem p7 (m : Mly) (x : Value) (ini cur : List Int) (a : Int) (hm : MOK m) (hs : dm m cur) (ha : 0 ≤ a ∧ a < m.inp) (h0 : 0 < cur.length) (hl : cur.length ≤ 1000) (hil : ini.length = cur.length) (L0 : List AO) (m0 : Nat) (hm0 : L0[m0]? = some (.vars 62 [.int .i64 m.inp, .int .i64 m.st, .list (.list (.int .i64)) m.nx, .list (.list (.int .i64)) m.ot, .exact x])) : eO Try.prog L0 53 (List.map (mv1 m0) [.one (.ptr 0 0 0 0), .agg [.list (.int .i64) ini, .list (.int .i64) cur], .one (.int .i64 a)]) { av := .tup [.one (.list (.int .i64) (aG (ouL m cur a))), .one (.list (.pair (.list (.int .i64)) (.pair (.list (.int .i64)) .unit)) (mh m ini cur a (aG (ouL m cur a))))], upd := [(m0, .vars 62 [.int .i64 m.inp, .int .i64 m.st, .list (.list (.int .i64)) m.nx, .list (.list (.int .i64)) m.ot, .exact x])], fp := [m0] } := by
 have ol := hm.ol
 have hkl := iq (ouL m cur a)
 have hol : (ouL m cur a).length = cur.length := aw ..
 have hor := (dC (ouL m cur a)).1
 have hk0 := wd (xs := ouL m cur a) (by omega)
 refine lP Try.func53 rfl (by kernel_rfl) (Nat.le_of_ble_eq_true rfl) rfl rfl (fun C hP hN hB => ?_) L0 m0 hm0
 replace hN : C.N = 106 := hN
 simp only [bc, V]
 refine ah fun _ k1 => ?_
 refine am hP hN rfl ?_
 iterate 3 (refine aj rfl fun _ k0 => ?_; simp only [zO, zT, acs, reduceCtorEq, aa, V, ad, ag, af, ae, ai]; (repeat refine an ?_); (try refine .inl ?_); apply k0; clear k0; simp only [zP, V])
 refine ao ?_
 apply k1; clear k1; refine kp [0, 1, 2, 4, 6, 7] ?_
 refine ah fun _ k2 => ?_
 refine am hP hN rfl ?_
 (refine aj rfl fun _ k0 => ?_; simp only [zO, zT, acs, reduceCtorEq, aa, V, ad, ag, af, ae, ai]; (repeat refine an ?_); (try refine .inl ?_); apply k0; clear k0; simp only [zP, V])
 refine ao ?_
 apply k2; clear k2; refine kp [0, 1, 2, 4, 6, 7, 8] ?_
 refine ah fun _ k3 => ?_
 refine ah fun _ k4 => ?_
 refine am hP hN rfl ?_
 iterate 4 (refine aj rfl fun _ k0 => ?_; simp only [zO, zT, acs, reduceCtorEq, aa, V, ad, ag, af, ae, ai]; (repeat refine an ?_); (try refine .inl ?_); apply k0; clear k0; simp only [zP, V])
 refine ao ?_
 apply k4; clear k4; refine kp [0, 1, 2, 4, 6, 7, 8, 18, 19, 20] ?_
 refine aD ?_
 refine fP 8 (.int .i64) 3 (by decide) rfl ?_; simp only [ax, aI, aN, b6, Nat.zero_add, V]
 refine bn (fun n5 s5 => ∃ (i : Nat) (v : Nat), (i ≤ cur.length) ∧ n5 = cur.length - i ∧ s5 = { env := [(0, .one (.ptr 0 0 0 0)), (2, .one (.int .i64 a)), (4, .one (.ptr 1 0 0 0)), (6, .one .nils), (7, .one .nils), (8, .one (.row 2 v)), (18, .one (.list (.int .i64) cur)), (19, .one (.int .i64 (cur.length : Int))), (20, .one (.int .i64 (i : Int)))], L := [.vars 62 [.int .i64 m.inp, .int .i64 m.st, .list (.list (.int .i64)) m.nx, .list (.list (.int .i64)) m.ot, .exact x], .vars 66 [.list (.int .i64) ini, .list (.int .i64) cur], .row (.int .i64) 3 v (ouL m (cur.take i) a)] }) ?_ ?_
 ·exact ⟨_, _, aA [0, 2, 4, 6, 7, 8, 18, 19, 20], 0, 0, Nat.zero_le _, rfl, rfl⟩
 rintro n5 s5 ⟨i, v, hi, rfl, rfl⟩
 refine ah fun _ k6 => ?_
 refine am hP hN rfl ?_
 (refine aj rfl fun _ k0 => ?_; simp only [zO, zT, acs, reduceCtorEq, aa, V, ad, ag, af, ae, ai]; (repeat refine an ?_); (try refine .inl ?_); apply k0; clear k0; simp only [zP, V])
 refine ao ?_
 apply k6; clear k6; refine kp [0, 2, 4, 6, 7, 8, 18, 19, 20, 21] ?_
 refine ah fun _ k7 => ?_
 refine cd (fun hc8 => ?_) (fun hc8 => ?_)
 ·(try simp only [zB, reduceCtorEq] at hc8)
  refine ay ?_
  apply k7; clear k7; refine kp [0, 2, 4, 6, 7, 8, 18, 19, 20, 21] ?_
  refine ah fun _ k9 => ?_
  refine aD ?_
  refine ah fun _ k10 => ?_
  refine am hP hN rfl ?_
  iterate 3 (refine aj rfl fun _ k0 => ?_; simp only [zO, zT, acs, reduceCtorEq, aa, V, ad, ag, af, ae, ai]; (repeat refine an ?_); (try refine .inl ?_); apply k0; clear k0; simp only [zP, V])
  refine ao ?_
  apply k10; clear k10; refine kp [0, 2, 4, 6, 7, 8, 10, 18, 19, 20, 21] ?_
  have hsk := hs _ (br (w := cur) (i := i) (by omega))
  have q2 := hm.ql (cur.getD i 0).toNat (by omega)
  have hnl : (ouL m (cur.take i) a).length = i := by unfold ouL; rw [aw, List.length_take]; omega
  refine am hP hN rfl ?_
  iterate 15 (refine aj rfl fun _ k0 => ?_; simp only [zO, zT, acs, reduceCtorEq, aa, V, ad, ag, af, ae, ai]; (repeat refine an ?_); (try refine .inl ?_); apply k0; clear k0; simp only [zP, V])
  refine ao ?_
  apply k9; clear k9; refine kp [0, 2, 4, 6, 7, 8, 10, 18, 19, 20, 21] ?_
  refine am hP hN rfl ?_
  iterate 2 (refine aj rfl fun _ k0 => ?_; simp only [zO, zT, acs, reduceCtorEq, aa, V, ad, ag, af, ae, ai]; (repeat refine an ?_); (try refine .inl ?_); apply k0; clear k0; simp only [zP, V])
  refine ao ?_
  refine ⟨_, _, ?_, aA [0, 2, 4, 6, 7, 8, 18, 19, 20], i + 1, v + 1, by omega, rfl, ?_⟩
  · omega
  · rw [sV (by omega)]; rfl
 (try simp only [zB, reduceCtorEq] at hc8)
 refine aZ ?_
 apply k3; clear k3; refine kp [0, 2, 4, 6, 7, 8, 18, 19, 20, 21] ?_
 refine ah fun _ k11 => ?_
 refine dn 2 rfl ?_; simp only [aJ, bz, zS, aa, and_self, and_true, true_and, and_false, false_and, if_true, if_false, eq_self, reduceCtorEq, Nat.one_ne_zero, Nat.zero_ne_one]
 have hkw : i = cur.length := by omega
 rw [hkw, aO]
 refine d8 (n := 2) (L1 := [_, _]) rfl rfl (by rw [hB]; simp) rfl rfl ?_
 refine am hP hN rfl ?_
 (refine aj rfl fun _ k0 => ?_; simp only [zO, zT, acs, reduceCtorEq, aa, V, ad, ag, af, ae, ai]; (repeat refine an ?_); (try refine .inl ?_); apply k0; clear k0; simp only [zP, V])
 refine aj rfl fun _ k0 => ?_
 refine aK (h := jH (nI (ouL m cur a) (by omega) (by omega))) rfl rfl (by first | exact rfl | (simp only [ev, zP, aa, V]; exact rfl)) (by simp only [zV, acs, reduceCtorEq, aa, V, ad, ag, af, ae, ai]) ?_
 apply k0; clear k0; simp only [zP, V]
 (refine aj rfl fun _ k0 => ?_; simp only [zO, zT, acs, reduceCtorEq, aa, V, ad, ag, af, ae, ai]; (repeat refine an ?_); (try refine .inl ?_); apply k0; clear k0; simp only [zP, V])
 refine ao ?_
 apply k11; clear k11; refine kp [0, 2, 4, 6, 7, 8, 11, 18, 19, 20, 21] ?_
 refine ah fun _ k12 => ?_
 refine am hP hN rfl ?_
 (refine aj rfl fun _ k0 => ?_; simp only [zO, zT, acs, reduceCtorEq, aa, V, ad, ag, af, ae, ai]; (repeat refine an ?_); (try refine .inl ?_); apply k0; clear k0; simp only [zP, V])
 refine aj rfl fun _ k0 => ?_
 refine aK (h := pL (k := 2) (ver := 0) (xs := ouL m cur a) uf rfl (by omega) (by omega)) rfl rfl (by first | exact rfl | (simp only [ev, zP, aa, V]; exact rfl)) (by simp only [zV, acs, reduceCtorEq, aa, V, ad, ag, af, ae, ai]) ?_
 apply k0; clear k0; simp only [zP, V]
 refine ao ?_
 apply k12; clear k12; refine kp [0, 2, 4, 6, 7, 8, 11, 18, 19, 20, 21] ?_
 refine ah fun _ k13 => ?_
 refine am hP hN rfl ?_
 (refine aj rfl fun _ k0 => ?_; simp only [zO, zT, acs, reduceCtorEq, aa, V, ad, ag, af, ae, ai]; (repeat refine an ?_); (try refine .inl ?_); apply k0; clear k0; simp only [zP, V])
 refine aj rfl fun _ k0 => ?_
 refine aK (h := lp (k := 2) (ver := 0) (xs := i9 (ouL m cur a)) nV rfl (by rw [iG]; omega) (by rw [iG]; omega) jt) rfl rfl (by first | exact rfl | (simp only [ev, zP, aa, V]; exact rfl)) (by simp only [zV, acs, reduceCtorEq, aa, V, ad, ag, af, ae, ai]) ?_
 apply k0; clear k0; simp only [zP, V]
 (refine aj rfl fun _ k0 => ?_; simp only [zO, zT, acs, reduceCtorEq, aa, V, ad, ag, af, ae, ai]; (repeat refine an ?_); (try refine .inl ?_); apply k0; clear k0; simp only [zP, V])
 refine ao ?_
 apply k13; clear k13; refine kp [0, 2, 4, 6, 7, 8, 11, 18, 19, 20, 21] ?_
 refine ah fun _ k14 => ?_
 refine dn 2 rfl ?_; simp only [aJ, bz, zS, aa, and_self, and_true, true_and, and_false, false_and, if_true, if_false, eq_self, reduceCtorEq, Nat.one_ne_zero, Nat.zero_ne_one]
 rw [show Lib.compact (i9 (ouL m cur a)) = (aG (ouL m cur a)) from rfl]
 refine am hP hN rfl ?_
 iterate 2 (refine aj rfl fun _ k0 => ?_; simp only [zO, zT, acs, reduceCtorEq, aa, V, ad, ag, af, ae, ai]; (repeat refine an ?_); (try refine .inl ?_); apply k0; clear k0; simp only [zP, V])
 (refine aj rfl fun _ k0 => ?_; simp only [zE, op1, ev, lkp, d7, ca, cR, bC, Ty.size, Ty.dflt, reduceCtorEq, aa, V, ad, ag, af, ae, Try.el91, Try.td91, ai]; (repeat refine an ?_); refine Or.inr (Or.inl (k0 _ ?_)); clear k0; simp only [zP, V])
 (refine aj rfl fun _ k0 => ?_; simp only [zO, zT, acs, reduceCtorEq, aa, V, ad, ag, af, ae, ai]; (repeat refine an ?_); (try refine .inl ?_); apply k0; clear k0; simp only [zP, V])
 refine ao ?_
 apply k14; clear k14; refine kp [0, 2, 4, 6, 7, 8, 11, 12, 18, 19, 20, 21] ?_
 refine ah fun _ k15 => ?_
 refine ah fun _ k16 => ?_
 refine am hP hN rfl ?_
 iterate 3 (refine aj rfl fun _ k0 => ?_; simp only [zO, zT, acs, reduceCtorEq, aa, V, ad, ag, af, ae, ai]; (repeat refine an ?_); (try refine .inl ?_); apply k0; clear k0; simp only [zP, V])
 refine ao ?_
 apply k16; clear k16; refine kp [0, 2, 4, 6, 7, 8, 11, 12, 18, 19, 20, 21, 48, 49, 50] ?_
 refine aD ?_
 refine kj 3 3 (T := 66) (sz := 2) (v := 0) (2 * (aG (ouL m cur a)).length) _ [] (by rw [← qW]; rfl) ?_
 rw [← xv m ini cur a (aG (ouL m cur a)), hol]
 simp only [cF, cK, ax, aI, Nat.zero_add, V, b6, aN]
 refine bn (fun n17 s17 => ∃ (i : Nat), (i ≤ cur.length) ∧ n17 = cur.length - i ∧ s17 = { env := [(0, .one (.ptr 0 0 0 0)), (2, .one (.int .i64 a)), (4, .one (.ptr 1 0 0 0)), (6, .one .nils), (7, .one .nils), (11, .one (.list (.int .i64) (aG (ouL m cur a)))), (12, .one (.rwc 3 0)), (48, .one (.list (.int .i64) (ouL m cur a))), (49, .one (.int .i64 (cur.length : Int))), (50, .one (.int .i64 (i : Int)))], L := .vars 62 [.int .i64 m.inp, .int .i64 m.st, .list (.list (.int .i64)) m.nx, .list (.list (.int .i64)) m.ot, .exact x] :: .vars 66 [.list (.int .i64) ini, .list (.int .i64) cur] :: .dead 1 :: .rowc 66 2 0 (cv 4 (ew m ini cur a i (aG (ouL m cur a)))) :: eu 3 (ew m ini cur a i (aG (ouL m cur a))) }) ?_ ?_
 ·refine ⟨_, _, aA [0, 2, 4, 6, 7, 11, 12, 48, 49, 50], 0, Nat.zero_le _, rfl, ?_⟩
  rfl
 rintro n17 s17 ⟨i, hi, rfl, rfl⟩
 refine ah fun _ k18 => ?_
 refine am hP hN rfl ?_
 (refine aj rfl fun _ k0 => ?_; simp only [zO, zT, acs, reduceCtorEq, aa, V, ad, ag, af, ae, ai]; (repeat refine an ?_); (try refine .inl ?_); apply k0; clear k0; simp only [zP, V])
 refine ao ?_
 apply k18; clear k18; refine kp [0, 2, 4, 6, 7, 11, 12, 48, 49, 50, 51] ?_
 refine ah fun _ k19 => ?_
 refine cd (fun hc20 => ?_) (fun hc20 => ?_)
 ·(try simp only [zB, reduceCtorEq] at hc20)
  refine ay ?_
  apply k19; clear k19; refine kp [0, 2, 4, 6, 7, 11, 12, 48, 49, 50, 51] ?_
  refine ah fun _ k21 => ?_
  refine aD ?_
  refine ah fun _ k22 => ?_
  refine am hP hN rfl ?_
  iterate 5 (refine aj rfl fun _ k0 => ?_; simp only [zO, zT, acs, reduceCtorEq, aa, V, ad, ag, af, ae, ai]; (repeat refine an ?_); (try refine .inl ?_); apply k0; clear k0; simp only [zP, V])
  refine ao ?_
  apply k22; clear k22; refine kp [0, 2, 4, 6, 7, 11, 12, 13, 14, 48, 49, 50, 51] ?_
  refine ah fun _ k23 => ?_
  have hgo : (ouL m cur a).getD i 0 = m.out (cur.getD i 0) a := by unfold ouL; simp [List.getD, show i < cur.length by omega]
  have hin : m.out (cur.getD i 0) a ∈ (aG (ouL m cur a)) := by rw [← hgo]; exact ((dC (ouL m cur a)).2 _).2 (br (by omega))
  rw [hgo]
  refine am hP hN rfl ?_
  iterate 2 (refine aj rfl fun _ k0 => ?_; simp only [zO, zT, acs, reduceCtorEq, aa, V, ad, ag, af, ae, ai]; (repeat refine an ?_); (try refine .inl ?_); apply k0; clear k0; simp only [zP, V])
  refine aj rfl fun _ k0 => ?_
  refine aK (h := aC (wg (aG (ouL m cur a)) (m.out (cur.getD i 0) a) hor hin (by omega))) rfl rfl (by first | exact rfl | (simp only [ev, zP, aa, V]; exact rfl)) (by simp only [zV, acs, reduceCtorEq, aa, V, ad, ag, af, ae, ai]) ?_
  apply k0; clear k0; simp only [zP, V]
  iterate 5 (refine aj rfl fun _ k0 => ?_; simp only [zO, zT, acs, reduceCtorEq, aa, V, ad, ag, af, ae, ai]; (repeat refine an ?_); (try refine .inl ?_); apply k0; clear k0; simp only [zP, V])
  refine ao ?_
  apply k23; clear k23; refine kp [0, 2, 4, 6, 7, 11, 12, 13, 14, 15, 48, 49, 50, 51] ?_
  refine ah fun _ k24 => ?_
  obtain ⟨k, hkd⟩ : ∃ k, k = pos (aG (ouL m cur a)) (m.out (cur.getD i 0) a) := ⟨_, rfl⟩
  rw [← hkd]
  have hkl9 : k < (aG (ouL m cur a)).length := by rw [hkd]; exact gS hin
  have hko : m.out (cur.getD i 0) a = (aG (ouL m cur a)).getD k 0 := by rw [hkd]; exact (jO hin).symm
  have hFl : (ew m ini cur a i (aG (ouL m cur a))).length = 2 * (aG (ouL m cur a)).length := mX ..
  have hg0 : (ew m ini cur a i (aG (ouL m cur a))).getD (k * 2) [] = (cw m ini cur a i ((aG (ouL m cur a)).getD k 0)) := by rw [Nat.mul_comm]; exact pI hkl9
  have hc0 : (cv 4 (ew m ini cur a i (aG (ouL m cur a)))).getD (k * 2) .junk = .row (k * 2 + 1 + 1 + 1 + 1) (cw m ini cur a i ((aG (ouL m cur a)).getD k 0)).length := by rw [qC4 (by omega), hg0]
  have hr0 : (eu 3 (ew m ini cur a i (aG (ouL m cur a))))[k * 2]? = some (.row (.int .i64) 3 (cw m ini cur a i ((aG (ouL m cur a)).getD k 0)).length (cw m ini cur a i ((aG (ouL m cur a)).getD k 0))) := by rw [r0 (by omega), hg0]
  have hgl : ((cw m ini cur a i ((aG (ouL m cur a)).getD k 0)) ++ [ini.getD i 0]).length = (cw m ini cur a i ((aG (ouL m cur a)).getD k 0)).length + 1 := ar
  have hw0 : bY (cv 4 (ew m ini cur a i (aG (ouL m cur a)))) (k * 2) [.row (k * 2 + 1 + 1 + 1 + 1) ((cw m ini cur a i ((aG (ouL m cur a)).getD k 0)).length + 1)] = cv 4 ((ew m ini cur a i (aG (ouL m cur a))).set (k * 2) (cw m ini cur a i ((aG (ouL m cur a)).getD k 0) ++ [ini.getD i 0])) := by rw [← hgl]; exact qW4 (by omega)
  have hs0 : (eu 3 (ew m ini cur a i (aG (ouL m cur a)))).set (k * 2) (.row (.int .i64) 3 ((cw m ini cur a i ((aG (ouL m cur a)).getD k 0)).length + 1) ((cw m ini cur a i ((aG (ouL m cur a)).getD k 0)) ++ [ini.getD i 0])) = eu 3 ((ew m ini cur a i (aG (ouL m cur a))).set (k * 2) (cw m ini cur a i ((aG (ouL m cur a)).getD k 0) ++ [ini.getD i 0])) := by rw [← hgl]; exact qj
  have hgll : (cw m ini cur a i ((aG (ouL m cur a)).getD k 0)).length ≤ i := BJ
  refine bu hP hN Try.mixed rfl ?_
  iterate 17 (refine aj rfl fun _ k0 => ?_; simp only [zE, op1, ev, lkp, d7, ca, cG, zG, Ty.dflt, Ty.size, Nat.mul_one, ne_eq, not_false_eq_true, Int.natCast_one, Int.mul_one, bZ, df, ci, cT, acs, cm, dS, cC, dL, rep, bC, cr, cq, fb, eB, cP, db, eH, Nat.div_one, cM, dg, dite_true, ep, reduceCtorEq, aa, V, ad, ag, af, ae, Try.el41, Try.el91, Try.st66, Try.td1, Try.td3, Try.td41, Try.td66, Try.td91, ai, hc0, hr0, iR, hFl, Nat.add_zero]; (repeat refine an ?_); (try refine .inl ?_); apply k0; clear k0; simp only [zP, V, hw0, hs0, Nat.add_zero])
  refine ao ?_
  refine ⟨by exact lR (pA (k * 2)) [([], [], 0), ([], [], 0), ([], [], 0), ([], [], 0), ([], [3], 0), ([], [3], 0), ([], [3], 0), ([], [1], 0), ([], [1], 0), ([], [], 0), ([], [], 0), ([], [], 0), ([], [], 0), ([4], [4], 0), ([], [3], 0), ([], [3], 0), ([3], [3], 0)] (by kernel_rfl), ?_⟩
  apply k24; clear k24; refine kp [0, 2, 4, 6, 7, 11, 12, 13, 14, 15, 48, 49, 50, 51] ?_
  have hsk := hs _ (br (w := cur) (i := i) (by omega))
  have q1 := hm.rl (cur.getD i 0).toNat (by omega)
  have hF1l : ((ew m ini cur a i (aG (ouL m cur a))).set (k * 2) (cw m ini cur a i ((aG (ouL m cur a)).getD k 0) ++ [ini.getD i 0])).length = 2 * (aG (ouL m cur a)).length := by rw [List.length_set]; exact hFl
  have hg1 : ((ew m ini cur a i (aG (ouL m cur a))).set (k * 2) (cw m ini cur a i ((aG (ouL m cur a)).getD k 0) ++ [ini.getD i 0])).getD (k * 2 + 1) [] = (bV m cur a i ((aG (ouL m cur a)).getD k 0)) := by rw [w8 (by omega), Nat.mul_comm]; exact qV hkl9
  have hc1 : (cv 4 ((ew m ini cur a i (aG (ouL m cur a))).set (k * 2) (cw m ini cur a i ((aG (ouL m cur a)).getD k 0) ++ [ini.getD i 0]))).getD (k * 2 + 1) .junk = .row (k * 2 + 1 + 1 + 1 + 1 + 1) (bV m cur a i ((aG (ouL m cur a)).getD k 0)).length := by rw [qC4 (by omega), hg1]
  have hr1 : (eu 3 ((ew m ini cur a i (aG (ouL m cur a))).set (k * 2) (cw m ini cur a i ((aG (ouL m cur a)).getD k 0) ++ [ini.getD i 0])))[k * 2 + 1]? = some (.row (.int .i64) 3 (bV m cur a i ((aG (ouL m cur a)).getD k 0)).length (bV m cur a i ((aG (ouL m cur a)).getD k 0))) := by rw [r0 (by omega), hg1]
  have hhl : ((bV m cur a i ((aG (ouL m cur a)).getD k 0)) ++ [m.nxt (cur.getD i 0) a]).length = (bV m cur a i ((aG (ouL m cur a)).getD k 0)).length + 1 := ar
  have hst9 : ((ew m ini cur a i (aG (ouL m cur a))).set (k * 2) (cw m ini cur a i ((aG (ouL m cur a)).getD k 0) ++ [ini.getD i 0])).set (k * 2 + 1) ((bV m cur a i ((aG (ouL m cur a)).getD k 0)) ++ [m.nxt (cur.getD i 0) a]) = ew m ini cur a (i + 1) (aG (ouL m cur a)) := by rw [Nat.mul_comm k 2]; exact (pZ hor hkl9 hko).symm
  have hw1 : bY (cv 4 ((ew m ini cur a i (aG (ouL m cur a))).set (k * 2) (cw m ini cur a i ((aG (ouL m cur a)).getD k 0) ++ [ini.getD i 0]))) (k * 2 + 1) [.row (k * 2 + 1 + 1 + 1 + 1 + 1) ((bV m cur a i ((aG (ouL m cur a)).getD k 0)).length + 1)] = cv 4 (ew m ini cur a (i + 1) (aG (ouL m cur a))) := by rw [← hhl, ← hst9]; exact qW4 (by omega)
  have hs1 : (eu 3 ((ew m ini cur a i (aG (ouL m cur a))).set (k * 2) (cw m ini cur a i ((aG (ouL m cur a)).getD k 0) ++ [ini.getD i 0]))).set (k * 2 + 1) (.row (.int .i64) 3 ((bV m cur a i ((aG (ouL m cur a)).getD k 0)).length + 1) ((bV m cur a i ((aG (ouL m cur a)).getD k 0)) ++ [(m.nx.getD (cur.getD i 0).toNat []).getD a.toNat 0])) = eu 3 (ew m ini cur a (i + 1) (aG (ouL m cur a))) := by rw [← hhl, ← hst9]; exact qj
  have hcll : (bV m cur a i ((aG (ouL m cur a)).getD k 0)).length ≤ i := mv
  refine bu hP hN Try.mixed rfl ?_
  iterate 27 (refine aj rfl fun _ k0 => ?_; simp only [zE, op1, ev, lkp, d7, ca, cG, zG, Ty.dflt, Ty.size, Nat.mul_one, ne_eq, not_false_eq_true, Int.natCast_one, Int.mul_one, bZ, df, ci, cT, acs, cm, iW, dS, cC, dL, rep, bC, cr, cq, fb, eB, cP, db, eH, Nat.div_one, cM, dg, dite_true, ep, reduceCtorEq, aa, V, ad, ag, af, ae, Try.el22, Try.el41, Try.el91, Try.st24, Try.st62, Try.st66, Try.td1, Try.td2, Try.td22, Try.td24, Try.td3, Try.td41, Try.td60, Try.td62, Try.td66, Try.td91, ai, hc1, hr1, iR, hF1l]; (repeat refine an ?_); (try refine .inl ?_); apply k0; clear k0; simp only [zP, V, hw1, hs1])
  refine ao ?_
  refine ⟨by exact lR (pA (k * 2 + 1)) [([], [], 0), ([], [], 0), ([], [], 0), ([], [], 0), ([], [3], 0), ([], [3], 0), ([], [3], 0), ([], [], 0), ([], [0], 0), ([], [0], 0), ([], [0], 0), ([], [0], 0), ([], [1], 0), ([], [1], 0), ([], [], 0), ([], [], 0), ([], [], 0), ([], [], 0), ([], [], 0), ([], [], 0), ([], [], 0), ([], [], 0), ([], [], 0), ([4], [4], 0), ([], [3], 0), ([], [3], 0), ([3], [3], 0)] (by kernel_rfl), ?_⟩
  apply k21; clear k21; refine kp [0, 2, 4, 6, 7, 11, 12, 13, 14, 15, 48, 49, 50, 51] ?_
  refine am hP hN rfl ?_
  iterate 2 (refine aj rfl fun _ k0 => ?_; simp only [zO, zT, acs, reduceCtorEq, aa, V, ad, ag, af, ae, ai]; (repeat refine an ?_); (try refine .inl ?_); apply k0; clear k0; simp only [zP, V])
  refine ao ?_
  refine ⟨_, _, ?_, aA [0, 2, 4, 6, 7, 11, 12, 48, 49, 50], i + 1, by omega, rfl, rfl⟩
  omega
 (try simp only [zB, reduceCtorEq] at hc20)
 refine aZ ?_
 apply k15; clear k15; refine kp [0, 2, 4, 6, 7, 11, 12, 48, 49, 50, 51] ?_
 refine ah fun _ k25 => ?_
 have hkw : i = cur.length := by omega
 rw [hkw]
 refine lh 3 (T := 66) (sz := 2) (v := 0) _ [_, _, _, _] [] rfl (fun c h => by cases h) rfl fun dd hdd => ?_
 simp only [cF, cK, b6, aN]
 have hgl2 : (mh m ini cur a (aG (ouL m cur a))).length = (aG (ouL m cur a)).length := aw ..
 refine rp 12 3 (.pair (.list (.int .i64)) (.pair (.list (.int .i64)) .unit)) (aG (ouL m cur a)).length rfl rfl (by rw [sG, ← hgl2]; exact lL _ _) (by rw [aw, mX]; show _ = _ * 2; omega) ?_
 simp only [cF, cK]
 refine dn 3 rfl ?_; simp only [aJ, bz, zS, aa, and_self, and_true, true_and, and_false, false_and, if_true, if_false, eq_self, reduceCtorEq, Nat.one_ne_zero, Nat.zero_ne_one]
 refine am hP hN rfl ?_
 iterate 4 (refine aj rfl fun _ k0 => ?_; simp only [zO, zT, acs, reduceCtorEq, aa, V, ad, ag, af, ae, ai]; (repeat refine an ?_); (try refine .inl ?_); apply k0; clear k0; simp only [zP, V])
 refine ao ?_
 apply k25; clear k25; refine kp [0, 2, 4, 6, 7, 11, 12, 48, 49, 50, 51] ?_
 refine aE ?_
 refine ⟨by first | exact .inl rfl | exact .inr rfl, _, rfl, _, _, rfl, ?_, ?_⟩ <;> simp only [fzV, fz1, fzC, aJ, bz, zP, aa, V, ai]
 all_goals rfl
set_option maxHeartbeats 4000000 in
theorem Ad (f : Nat) (m : Mly) (hm : MOK m) (IH : ∀ (ini cur w : List Int) (n : Nat) (fl : List Value), 4098 ≤ f + n → n ≤ 4096 → fl.length = n * 3 → dm m cur → ini.length = cur.length → 0 < cur.length → cur.length ≤ 1000 → dD m w → eO Try.prog [.vars 62 [.int .i64 m.inp, .int .i64 m.st, .list (.list (.int .i64)) m.nx, .list (.list (.int .i64)) m.ot, .rwc 1 n], .rowc 52 3 n (eR fl)] 33 [.one (.ptr 0 0 0 0), .agg [.list (.int .i64) ini, .list (.int .i64) cur], .one (.list (.int .i64) w)] { av := .one (.int .i64 (n : Int)), upd := [(0, .vars 62 [.int .i64 m.inp, .int .i64 m.st, .list (.list (.int .i64)) m.nx, .list (.list (.int .i64)) m.ot, .rwc 1 (n + (cI m f ini cur w n).length)]), (1, .rowc 52 3 (n + (cI m f ini cur w n).length) (eR fl ++ ndC (cI m f ini cur w n)))], fp := [0, 1] }) (ini cur w : List Int) (n : Nat) (fl : List Value) (hf : 4098 ≤ (f + 1) + n) (hn : n ≤ 4096) (hfl : fl.length = n * 3) (hs : dm m cur) (hil : ini.length = cur.length) (h0 : 0 < cur.length) (hl : cur.length ≤ 1000) (hw : dD m w) : eO Try.prog [.vars 62 [.int .i64 m.inp, .int .i64 m.st, .list (.list (.int .i64)) m.nx, .list (.list (.int .i64)) m.ot, .rwc 1 n], .rowc 52 3 n (eR fl)] 33 [.one (.ptr 0 0 0 0), .agg [.list (.int .i64) ini, .list (.int .i64) cur], .one (.list (.int .i64) w)] { av := .one (.int .i64 (n : Int)), upd := [(0, .vars 62 [.int .i64 m.inp, .int .i64 m.st, .list (.list (.int .i64)) m.nx, .list (.list (.int .i64)) m.ot, .rwc 1 (n + (cI m (f + 1) ini cur w n).length)]), (1, .rowc 52 3 (n + (cI m (f + 1) ini cur w n).length) (eR fl ++ ndC (cI m (f + 1) ini cur w n)))], fp := [0, 1] } := by
 refine nb _ _ Try.func33 rfl (by kernel_rfl) (Nat.le_of_ble_eq_true rfl) (by intro k hk; simp only [ax, aI, Nat.zero_add, V] at hk; simp only [List.mem_cons, List.not_mem_nil, or_false]; omega) (fun C hP hN hB => ?_)
 replace hB : C.bL.length = 2 := by rw [hB]; rfl
 replace hN : C.N = 123 := hN
 simp only [bc, V]
 refine ah fun _ k1 => ?_
 refine am hP hN rfl ?_
 iterate 2 (refine aj rfl fun _ k0 => ?_; simp only [zO, zT, acs, reduceCtorEq, aa, V, ad, ag, af, ae, ai, aU, bm, ar, aP, au]; (repeat refine And.intro (by first | omega | assumption | exact rfl | exact ⟨n, 1, ⟨rfl, rfl, by decide⟩, by omega, by omega⟩) ?_); (try refine .inl ?_); apply k0; clear k0; simp only [zP, V])
 refine ao ?_
 apply k1; clear k1; refine kp [0, 1, 2, 4, 6] ?_
 refine ah fun _ k2 => ?_
 have hdv : (eR fl).length / 3 = n := by rw [aU, hfl]; omega
 have hdv2 : fl.length / 3 = n := by omega
 have hxl : (eR fl).length = n * 3 := by rw [aU, hfl]
 refine am hP hN rfl ?_
 iterate 6 (refine aj rfl fun _ k0 => ?_; simp only [zO, zT, acs, reduceCtorEq, aa, V, ad, ag, af, ae, ai, aU, bm, ar, aP, au, hdv, hdv2]; (repeat refine And.intro (by first | omega | assumption | exact rfl | exact ⟨n, 1, ⟨rfl, rfl, by decide⟩, by omega, by omega⟩) ?_); (try refine .inl ?_); apply k0; clear k0; simp only [zP, V])
 refine ao ?_
 apply k2; clear k2; refine kp [0, 1, 2, 4, 6, 7] ?_
 refine ah fun _ k3 => ?_
 refine j6 ?_; simp only [aN, List.append_assoc, b6]
 refine bu hP hN Try.mixed rfl ?_
 iterate 7 (refine aj rfl fun _ k0 => ?_; simp only [zO, zT, acs, reduceCtorEq, aa, V, ad, ag, af, ae, ai, aU, bm, ar, aP, au, hxl]; (repeat refine And.intro (by first | omega | assumption | exact rfl | exact ⟨n, 1, ⟨rfl, rfl, by decide⟩, by omega, by omega⟩) ?_); (try refine .inl ?_); apply k0; clear k0; simp only [zP, V])
 refine aj rfl fun _ k0 => ?_
 refine aK (h := aC (uE ini (by omega))) rfl rfl (by first | exact rfl | (simp only [ev, zP, aa, V]; exact rfl)) (by simp only [zV, acs, reduceCtorEq, aa, V, ad, ag, af, ae, ai, aU, bm, ar, aP, au, hxl]) ?_
 apply k0; clear k0; simp only [zP, V]
 (refine aj rfl fun _ k0 => ?_; simp only [zO, zT, acs, reduceCtorEq, aa, V, ad, ag, af, ae, ai, aU, bm, ar, aP, au, hxl]; (repeat refine And.intro (by first | omega | assumption | exact rfl | exact ⟨n, 1, ⟨rfl, rfl, by decide⟩, by omega, by omega⟩) ?_); (try refine .inl ?_); apply k0; clear k0; simp only [zP, V])
 (refine aj rfl fun _ k0 => ?_; simp only [zO, zT, acs, reduceCtorEq, aa, V, ad, ag, af, ae, ai, aU, bm, ar, aP, au, hxl]; (repeat refine And.intro (by first | omega | assumption | exact rfl | exact ⟨n, 1, ⟨rfl, rfl, by decide⟩, by omega, by omega⟩) ?_); refine Or.inr (Or.inr (Or.inr (Or.inr ⟨3, by exact rfl, ?_⟩))); refine k0 _ ?_; clear k0; simp only [zP, V])
 iterate 4 (refine aj rfl fun _ k0 => ?_; simp only [zO, zT, acs, reduceCtorEq, aa, V, ad, ag, af, ae, ai, aU, bm, ar, aP, au, hxl]; (repeat refine And.intro (by first | omega | assumption | exact rfl | exact ⟨n, 1, ⟨rfl, rfl, by decide⟩, by omega, by omega⟩) ?_); (try refine .inl ?_); apply k0; clear k0; simp only [zP, V])
 refine ao ?_
 refine ⟨by kernel_rfl, ?_⟩
 apply k3; clear k3; refine kp [0, 1, 2, 4, 6, 7] ?_
 refine ah fun _ k4 => ?_
 refine ah fun _ k5 => ?_
 refine eQ (L1 := [_, _, _]) rfl (by rw [hB]; simp) rfl (by simp [dQ, bM, cQ]) ?_
 refine kq 1 (n * 3 + 2) kdT 58 (by decide) rfl (Cg hxl) ?_
 simp only [zS, ax, aI, aN, b6, Nat.zero_add, V, Cc hxl]
 have e9 : ∀ a b c : AC, [a, b, c] = a :: b :: c :: ndC [] := fun _ _ _ => rfl
 rw [e9 (.list (.int .i64) ini)]
 have hdv1 : (n * 3 + 3) / 3 = n + 1 := by omega
 refine am hP hN rfl ?_
 iterate 6 (refine aj rfl fun _ k0 => ?_; simp only [zO, zT, acs, reduceCtorEq, aa, V, ad, ag, af, ae, ai, aU, bm, ar, aP, au, hfl, hdv1]; (repeat refine And.intro (by first | omega | assumption | exact rfl | exact ⟨n, 1, ⟨rfl, rfl, by decide⟩, by omega, by omega⟩) ?_); (try refine .inl ?_); apply k0; clear k0; simp only [zP, V])
 refine ao ?_
 apply k5; clear k5; refine kp [0, 1, 2, 4, 6, 7, 36] ?_
 refine cd (fun hc6 => ?_) (fun hc6 => ?_)
 ·(try simp only [zB, reduceCtorEq] at hc6)
  refine ah fun _ k7 => ?_
  refine am hP hN rfl ?_
  iterate 2 (refine aj rfl fun _ k0 => ?_; simp only [zO, zT, acs, reduceCtorEq, aa, V, ad, ag, af, ae, ai, aU, bm, ar, aP, au]; (repeat refine And.intro (by first | omega | assumption | exact rfl | exact ⟨n, 1, ⟨rfl, rfl, by decide⟩, by omega, by omega⟩) ?_); (try refine .inl ?_); apply k0; clear k0; simp only [zP, V])
  refine ao ?_
  apply k7; clear k7; refine kp [0, 1, 2, 4, 6, 7, 36] ?_
  refine dy 3 1 (t := kdT) rfl rfl ?_
  simp only [aJ, bz, fr3, zS, aa, and_self, and_true, true_and, and_false, false_and, if_true, if_false, eq_self, reduceCtorEq, Nat.one_ne_zero, Nat.zero_ne_one]
  refine dh [6] ?_; simp only [cJ, lkp, zE, reduceCtorEq, aa]
  refine d8 (n := 3) (L1 := [_, _, _]) rfl rfl (by rw [hB]; simp) rfl (by simp [dQ, bM, cQ, dP]) ?_
  refine eQ (L1 := [_, _]) rfl (by rw [hB]; exact Nat.le_refl _) rfl (by simp [dQ, bM, cQ, dP]) ?_
  refine aE ?_
  refine ⟨by first | exact .inl rfl | exact .inr rfl, _, rfl, ?_⟩; simp only [zP, aa, V, ai, aU, bm, ar, aP, au]
  try refine ⟨?_, rfl⟩
  first
  | (rw [eX (by omega)]; all_goals rfl)
  | (rw [eS (by omega) (hW.symm.trans hWn)]; all_goals rfl)
  | (rw [da (by omega) hW.symm, gg hD hbrk, ax, show n + (D.length + 1) = n + 1 + D.length by omega]; all_goals rfl)
  | (rw [hie, aO] at hD
     rw [da (by omega) hW.symm, hD, ax, show n + (D.length + 1) = n + 1 + D.length by omega]; all_goals rfl)
 (try simp only [zB, reduceCtorEq] at hc6)
 refine ay ?_
 apply k4; clear k4; refine kp [0, 1, 2, 4, 6, 7, 36] ?_
 refine ah fun _ k8 => ?_
 refine ah fun _ k9 => ?_
 refine am hP hN rfl ?_
 iterate 4 (refine aj rfl fun _ k0 => ?_; simp only [zO, zT, acs, reduceCtorEq, aa, V, ad, ag, af, ae, ai, aU, bm, ar, aP, au]; (repeat refine And.intro (by first | omega | assumption | exact rfl | exact ⟨n, 1, ⟨rfl, rfl, by decide⟩, by omega, by omega⟩) ?_); (try refine .inl ?_); apply k0; clear k0; simp only [zP, V])
 refine' aR (want := true) 4 rfl (m := 41) (by simp only [zP, aa, V]; exact rfl) (by kernel_rfl) rfl rfl rfl rfl rfl (fun hg10 => ?a10) ?b10 ?c10
 case a10 =>
  have hq10 := hg10; (try simp only [zB, reduceCtorEq] at hg10); simp only [zE]
  iterate 4 (refine bp rfl fun _ k0 => ?_; simp only [zO, zT, acs, reduceCtorEq, aa, V, ad, ag, af, ae, ai, aU, bm, ar, aP, au]; (repeat refine And.intro (by first | omega | assumption | exact rfl | exact ⟨n, 1, ⟨rfl, rfl, by decide⟩, by omega, by omega⟩) ?_); (try refine .inl ?_); apply k0; clear k0; simp only [zP, V])
  (refine aj rfl fun _ k0 => ?_; simp only [zO, zT, acs, reduceCtorEq, aa, V, ad, ag, af, ae, ai, aU, bm, ar, aP, au]; (repeat refine And.intro (by first | omega | assumption | exact rfl | exact ⟨n, 1, ⟨rfl, rfl, by decide⟩, by omega, by omega⟩) ?_); (try refine .inl ?_); apply k0; clear k0; simp only [zP, V])
  refine ao ?_
  refine ⟨by simp only [zP, aa, V]; exact rfl, rfl, ?_, rfl⟩; (repeat refine aS rfl ?_); exact bB (by exact rfl) hq10
 case b10 => exact cD
 simp only [bh, aY]
 refine ao ?_
 apply k9; clear k9; refine kp [0, 1, 2, 4, 6, 7, 36, 46] ?_
 refine cd (fun hc11 => ?_) (fun hc11 => ?_)
 ·(try simp only [zB, reduceCtorEq] at hc11)
  refine bu hP hN Try.mixed rfl ?_
  iterate 6 (refine aj rfl fun _ k0 => ?_; simp only [zO, zT, acs, reduceCtorEq, aa, V, ad, ag, af, ae, ai, aU, bm, ar, aP, au]; (repeat refine And.intro (by first | omega | assumption | exact rfl | exact ⟨n, 1, ⟨rfl, rfl, by decide⟩, by omega, by omega⟩) ?_); (try refine .inl ?_); apply k0; clear k0; simp only [zP, V])
  refine aj rfl fun _ k0 => ?_
  refine aK (h := aC (zD m cur hm hs hl)) rfl rfl (by first | exact rfl | (simp only [ev, zP, aa, V]; exact rfl)) (by simp only [zV, acs, reduceCtorEq, aa, V, ad, ag, af, ae, ai, aU, bm, ar, aP, au]) ?_
  apply k0; clear k0; simp only [zP, V]
  iterate 4 (refine aj rfl fun _ k0 => ?_; simp only [zO, zT, acs, reduceCtorEq, aa, V, ad, ag, af, ae, ai, aU, bm, ar, aP, au]; (repeat refine And.intro (by first | omega | assumption | exact rfl | exact ⟨n, 1, ⟨rfl, rfl, by decide⟩, by omega, by omega⟩) ?_); (try refine .inl ?_); apply k0; clear k0; simp only [zP, V])
  refine ao ?_
  refine ⟨by kernel_rfl, ?_⟩
  apply k8; clear k8; refine kp [0, 1, 2, 4, 6, 7, 36, 46] ?_
  refine ah fun _ k12 => ?_
  refine ah fun _ k13 => ?_
  obtain ⟨W, hW⟩ : ∃ W, W = gF m ini cur w := ⟨_, rfl⟩
  have hWs : dD m W := by rw [hW]; exact xy hw
  refine tM 2 (v' := .one (.list (.int .i64) W)) rfl (VLE.of_eq (by first | (show AV.one (.list (.int .i64) ((fdW m cur).getD [])) = _; rw [hW]; unfold gF; rw [if_pos (by omega)]; done) | (show AV.one (.list (.int .i64) w) = _; rw [hW]; unfold gF; rw [if_neg (by omega)]; done))) ?_
  refine am hP hN rfl ?_
  iterate 3 (refine aj rfl fun _ k0 => ?_; simp only [zO, zT, acs, reduceCtorEq, aa, V, ad, ag, af, ae, ai, aU, bm, ar, aP, au]; (repeat refine And.intro (by first | omega | assumption | exact rfl | exact ⟨n, 1, ⟨rfl, rfl, by decide⟩, by omega, by omega⟩) ?_); (try refine .inl ?_); apply k0; clear k0; simp only [zP, V])
  refine ao ?_
  apply k13; clear k13; refine kp [0, 1, 2, 4, 6, 7, 36, 46, 59] ?_
  refine cd (fun hc14 => ?_) (fun hc14 => ?_)
  ·(try simp only [zB, reduceCtorEq] at hc14)
   have hWn : W = [] := List.eq_nil_of_length_eq_zero (by omega)
   refine ah fun _ k15 => ?_
   refine am hP hN rfl ?_
   iterate 2 (refine aj rfl fun _ k0 => ?_; simp only [zO, zT, acs, reduceCtorEq, aa, V, ad, ag, af, ae, ai, aU, bm, ar, aP, au]; (repeat refine And.intro (by first | omega | assumption | exact rfl | exact ⟨n, 1, ⟨rfl, rfl, by decide⟩, by omega, by omega⟩) ?_); (try refine .inl ?_); apply k0; clear k0; simp only [zP, V])
   refine ao ?_
   apply k15; clear k15; refine kp [0, 1, 2, 4, 6, 7, 36, 46, 59] ?_
   refine dy 3 1 (t := kdT) rfl rfl ?_
   simp only [aJ, bz, fr3, zS, aa, and_self, and_true, true_and, and_false, false_and, if_true, if_false, eq_self, reduceCtorEq, Nat.one_ne_zero, Nat.zero_ne_one]
   refine dh [6] ?_; simp only [cJ, lkp, zE, reduceCtorEq, aa]
   refine d8 (n := 3) (L1 := [_, _, _]) rfl rfl (by rw [hB]; simp) rfl (by simp [dQ, bM, cQ, dP]) ?_
   refine eQ (L1 := [_, _]) rfl (by rw [hB]; exact Nat.le_refl _) rfl (by simp [dQ, bM, cQ, dP]) ?_
   refine aE ?_
   refine ⟨by first | exact .inl rfl | exact .inr rfl, _, rfl, ?_⟩; simp only [zP, aa, V, ai, aU, bm, ar, aP, au]
   try refine ⟨?_, rfl⟩
   first
   | (rw [eX (by omega)]; all_goals rfl)
   | (rw [eS (by omega) (hW.symm.trans hWn)]; all_goals rfl)
   | (rw [da (by omega) hW.symm, gg hD hbrk, ax, show n + (D.length + 1) = n + 1 + D.length by omega]; all_goals rfl)
   | (rw [hie, aO] at hD
      rw [da (by omega) hW.symm, hD, ax, show n + (D.length + 1) = n + 1 + D.length by omega]; all_goals rfl)
  (try simp only [zB, reduceCtorEq] at hc14)
  obtain ⟨a0, w2, hWc⟩ : ∃ a0 w2, W = a0 :: w2 := by
    cases W with
    | nil => simp at hc14
    | cons a0 w2 => exact ⟨_, _, rfl⟩
  subst hWc
  refine ay ?_
  apply k12; clear k12; refine kp [0, 1, 2, 4, 6, 7, 36, 46, 59] ?_
  refine ah fun _ k16 => ?_
  have ha0 : 0 ≤ a0 ∧ a0 < m.inp := hWs a0 (aV ..)
  have hw2 : dD m w2 := fun x hx => hWs x (aM _ hx)
  refine bu hP hN Try.mixed rfl ?_
  iterate 11 (refine aj rfl fun _ k0 => ?_; simp only [zE, op1, ev, lkp, d7, ca, iW, bZ, df, Nat.mul_one, ci, cT, acs, Ty.dflt, zG, cm, cG, Ty.size, ne_eq, not_false_eq_true, Int.natCast_one, Int.mul_one, ep, cr, bC, reduceCtorEq, aa, V, ad, ag, af, ae, Try.el27, Try.el41, Try.st52, Try.st62, Try.td1, Try.td27, Try.td3, Try.td41, Try.td52, Try.td60, Try.td62, ai, aU, bm, ar, aP, au, hfl]; (repeat refine And.intro (by first | omega | assumption | exact rfl | exact ⟨n, 1, ⟨rfl, rfl, by decide⟩, by omega, by omega⟩) ?_); (try refine .inl ?_); apply k0; clear k0; simp only [zP, V, zL hxl])
  refine ao ?_
  refine ⟨by kernel_rfl, ?_⟩
  apply k16; clear k16; refine kp [0, 1, 2, 4, 6, 7, 36, 46, 59] ?_
  refine ah fun _ k17 => ?_
  refine bu hP hN Try.mixed rfl ?_
  iterate 5 (refine aj rfl fun _ k0 => ?_; simp only [zO, zT, acs, reduceCtorEq, aa, V, ad, ag, af, ae, ai, aU, bm, ar, aP, au]; (repeat refine And.intro (by first | omega | assumption | exact rfl | exact ⟨n, 1, ⟨rfl, rfl, by decide⟩, by omega, by omega⟩) ?_); (try refine .inl ?_); apply k0; clear k0; simp only [zP, V])
  refine aj rfl fun _ k0 => ?_
  refine aK (h := jo (k := 0) (T := 62) (cs := [.int .i64 m.inp, .int .i64 m.st, .list (.list (.int .i64)) m.nx, .list (.list (.int .i64)) m.ot]) (c := .rwc 1 (n + 1)) rfl (by simp) (fun x => p7 m x ini cur a0 hm hs ha0 h0 hl hil _ 0 rfl)) rfl rfl (by first | exact rfl | (simp only [ev, zP, aa, V]; exact rfl)) (by simp only [zV, acs, reduceCtorEq, aa, V, ad, ag, af, ae, ai, aU, bm, ar, aP, au]) ?_
  apply k0; clear k0; simp only [zP, V]
  iterate 5 (refine aj rfl fun _ k0 => ?_; simp only [zO, zT, acs, reduceCtorEq, aa, V, ad, ag, af, ae, ai, aU, bm, ar, aP, au]; (repeat refine And.intro (by first | omega | assumption | exact rfl | exact ⟨n, 1, ⟨rfl, rfl, by decide⟩, by omega, by omega⟩) ?_); (try refine .inl ?_); apply k0; clear k0; simp only [zP, V])
  refine ao ?_
  refine ⟨by kernel_rfl, ?_⟩
  apply k17; clear k17; refine kp [0, 1, 2, 4, 6, 7, 8, 9, 36, 46, 59] ?_
  refine ah fun _ k18 => ?_
  refine ah fun _ k19 => ?_
  have hkl := iq (ouL m cur a0)
  have hol : (ouL m cur a0).length = cur.length := aw ..
  refine am hP hN rfl ?_
  iterate 3 (refine aj rfl fun _ k0 => ?_; simp only [zO, zT, acs, reduceCtorEq, aa, V, ad, ag, af, ae, ai, aU, bm, ar, aP, au]; (repeat refine And.intro (by first | omega | assumption | exact rfl | exact ⟨n, 1, ⟨rfl, rfl, by decide⟩, by omega, by omega⟩) ?_); (try refine .inl ?_); apply k0; clear k0; simp only [zP, V])
  refine ao ?_
  apply k19; clear k19; refine kp [0, 1, 2, 4, 6, 7, 8, 9, 36, 46, 59, 80, 81, 82] ?_
  refine aD ?_
  refine bn (fun n20 s20 => ∃ (i : Nat) (D : List bj) (K : List dX), (i ≤ (aG (ouL m cur a0)).length) ∧ (((aG (ouL m cur a0)).take i).foldl (dN n (fun i c k => cI m f i c w2 k) m ini cur a0) ([], []) = (D, K)) ∧ (n + 1 + D.length ≤ 4097) ∧ (K.length ≤ i) ∧ n20 = (aG (ouL m cur a0)).length - i ∧ s20 = { env := [(0, .one (.ptr 0 0 0 0)), (2, .one (.list (.int .i64) (a0 :: w2))), (6, .one (.int .i64 0)), (7, .one (.int .i64 (n : Int))), (9, .one (.list (.pair (.list (.int .i64)) (.pair (.list (.int .i64)) .unit)) (mh m ini cur a0 (aG (ouL m cur a0))))), (80, .one (.list (.int .i64) (aG (ouL m cur a0)))), (81, .one (.int .i64 ((aG (ouL m cur a0)).length : Int))), (82, .one (.int .i64 (i : Int)))], L := [.vars 62 [.int .i64 m.inp, .int .i64 m.st, .list (.list (.int .i64)) m.nx, .list (.list (.int .i64)) m.ot, .rwc 1 (n + 1 + D.length)], .rowc 52 3 (n + 1 + D.length) (eR fl ++ .list (.int .i64) ini :: .int .i64 a0 :: .row 3 K.length :: ndC D), .vars 66 [.list (.int .i64) ini, .list (.int .i64) cur], .row kdT 58 K.length K] }) ?_ ?_
  ·exact ⟨_, _, aA [0, 2, 6, 7, 9, 80, 81, 82], 0, [], [], Nat.zero_le _, rfl, by simp only [aI]; omega, Nat.zero_le _, rfl, rfl⟩
  rintro n20 s20 ⟨i, D, K, hi, hD, hDl, hKl, rfl, rfl⟩
  refine ah fun _ k21 => ?_
  refine am hP hN rfl ?_
  (refine aj rfl fun _ k0 => ?_; simp only [zO, zT, acs, reduceCtorEq, aa, V, ad, ag, af, ae, ai, aU, bm, ar, aP, au]; (repeat refine And.intro (by first | omega | assumption | exact rfl | exact ⟨n, 1, ⟨rfl, rfl, by decide⟩, by omega, by omega⟩) ?_); (try refine .inl ?_); apply k0; clear k0; simp only [zP, V])
  refine ao ?_
  apply k21; clear k21; refine kp [0, 2, 6, 7, 9, 80, 81, 82, 83] ?_
  refine ah fun _ k22 => ?_
  refine cd (fun hc23 => ?_) (fun hc23 => ?_)
  ·(try simp only [zB, reduceCtorEq] at hc23)
   refine ay ?_
   apply k22; clear k22; refine kp [0, 2, 6, 7, 9, 80, 81, 82, 83] ?_
   refine ah fun _ k24 => ?_
   refine aD ?_
   refine ah fun _ k25 => ?_
   refine am hP hN rfl ?_
   iterate 5 (refine aj rfl fun _ k0 => ?_; simp only [zO, zT, acs, reduceCtorEq, aa, V, ad, ag, af, ae, ai, aU, bm, ar, aP, au]; (repeat refine And.intro (by first | omega | assumption | exact rfl | exact ⟨n, 1, ⟨rfl, rfl, by decide⟩, by omega, by omega⟩) ?_); (try refine .inl ?_); apply k0; clear k0; simp only [zP, V])
   refine ao ?_
   apply k25; clear k25; refine kp [0, 2, 6, 7, 9, 10, 11, 80, 81, 82, 83] ?_
   refine ah fun _ k26 => ?_
   refine ah fun _ k27 => ?_
   have hdvD : (n * 3 + (D.length * 3 + 1 + 1 + 1)) / 3 = n + 1 + D.length := by omega
   refine am hP hN rfl ?_
   iterate 6 (refine aj rfl fun _ k0 => ?_; simp only [zO, zT, acs, reduceCtorEq, aa, V, ad, ag, af, ae, ai, aU, bm, ar, aP, au, hfl, ax, hdvD]; (repeat refine And.intro (by first | omega | assumption | exact rfl | exact ⟨n, 1, ⟨rfl, rfl, by decide⟩, by omega, by omega⟩) ?_); (try refine .inl ?_); apply k0; clear k0; simp only [zP, V])
   refine ao ?_
   apply k27; clear k27; refine kp [0, 2, 6, 7, 9, 10, 11, 80, 81, 82, 83, 92] ?_
   refine cd (fun hc28 => ?_) (fun hc28 => ?_)
   ·(try simp only [zB, reduceCtorEq] at hc28)
    have hbrk : 4096 < n + 1 + D.length := by omega
    refine aZ ?_
    apply k18; clear k18; refine kp [0, 2, 6, 7, 9, 10, 11, 80, 81, 82, 83, 92] ?_
    refine ah fun _ k29 => ?_
    refine am hP hN rfl ?_
    iterate 2 (refine aj rfl fun _ k0 => ?_; simp only [zO, zT, acs, reduceCtorEq, aa, V, ad, ag, af, ae, ai, aU, bm, ar, aP, au]; (repeat refine And.intro (by first | omega | assumption | exact rfl | exact ⟨n, 1, ⟨rfl, rfl, by decide⟩, by omega, by omega⟩) ?_); (try refine .inl ?_); apply k0; clear k0; simp only [zP, V])
    refine ao ?_
    apply k29; clear k29; refine kp [0, 2, 6, 7, 9, 10, 11, 80, 81, 82, 83, 92] ?_
    refine dy 3 1 (t := kdT) rfl rfl ?_
    simp only [aJ, bz, fr3, zS, aa, and_self, and_true, true_and, and_false, false_and, if_true, if_false, eq_self, reduceCtorEq, Nat.one_ne_zero, Nat.zero_ne_one]
    refine dh [6] ?_; simp only [cJ, lkp, zE, reduceCtorEq, aa]
    refine d8 (n := 3) (L1 := [_, _, _]) rfl rfl (by rw [hB]; simp) rfl (by simp [dQ, bM, cQ, dP]) ?_
    refine eQ (L1 := [_, _]) rfl (by rw [hB]; exact Nat.le_refl _) rfl (by simp [dQ, bM, cQ, dP]) ?_
    refine aE ?_
    refine ⟨by first | exact .inl rfl | exact .inr rfl, _, rfl, ?_⟩; simp only [zP, aa, V, ai, aU, bm, ar, aP, au]
    try refine ⟨?_, rfl⟩
    first
    | (rw [eX (by omega)]; all_goals rfl)
    | (rw [eS (by omega) (hW.symm.trans hWn)]; all_goals rfl)
    | (rw [da (by omega) hW.symm, gg hD hbrk, ax, show n + (D.length + 1) = n + 1 + D.length by omega]; all_goals rfl)
    | (rw [hie, aO] at hD
       rw [da (by omega) hW.symm, hD, ax, show n + (D.length + 1) = n + 1 + D.length by omega]; all_goals rfl)
   (try simp only [zB, reduceCtorEq] at hc28)
   refine ay ?_
   apply k26; clear k26; refine kp [0, 2, 6, 7, 9, 10, 11, 80, 81, 82, 83, 92] ?_
   refine ah fun _ k30 => ?_
   have hgi := tU (m := m) (ini := ini) (cur := cur) (a := a0) (ks := (aG (ouL m cur a0))) (i := i) (by omega)
   have hin : ((aG (ouL m cur a0)).getD i 0) ∈ (aG (ouL m cur a0)) := br (by omega)
   have hq1 := jA hm (o := ((aG (ouL m cur a0)).getD i 0)) ha0 hs
   have hq2 := fA m ini cur a0 ((aG (ouL m cur a0)).getD i 0) cur.length
   have hq3 := mu hin
   have hq4 : (bV m cur a0 cur.length ((aG (ouL m cur a0)).getD i 0)).length ≤ 1000 := Nat.le_trans mv hl
   have hNle := mF m f (cw m ini cur a0 cur.length ((aG (ouL m cur a0)).getD i 0)) (bV m cur a0 cur.length ((aG (ouL m cur a0)).getD i 0)) w2 (n + 1 + D.length) (by omega)
   have hst9 := mW (n := n) (rec := (fun i c k => cI m f i c w2 k)) (m := m) (ini := ini) (cur := cur) (a := a0) (i := i) (by omega) hD (by omega)
   refine bu hP hN Try.mixed rfl ?_
   iterate 6 (refine aj rfl fun _ k0 => ?_; simp only [zO, zT, acs, reduceCtorEq, aa, V, ad, ag, af, ae, ai, aU, bm, ar, aP, au, az, hgi, Int.toNat_one, ax, aO, List.drop_succ_cons, List.drop_zero]; (repeat refine And.intro (by first | omega | assumption | exact rfl | exact ⟨n, 1, ⟨rfl, rfl, by decide⟩, by omega, by omega⟩) ?_); (try refine .inl ?_); apply k0; clear k0; simp only [zP, V, List.append_assoc, aN, ← i6])
   (refine aj rfl fun _ k0 => ?_; simp only [zE, op1, ev, lkp, d7, ca, cG, zG, Ty.dflt, Ty.size, Nat.mul_one, ne_eq, not_false_eq_true, Int.natCast_one, Int.mul_one, df, ci, cT, acs, cm, hU, bnd, reduceCtorEq, aa, V, ad, ag, af, ae, Try.el41, Try.el91, Try.st66, Try.td3, Try.td41, Try.td60, Try.td66, Try.td91, ai, aU, bm, ar, aP, au, az, hgi, Int.toNat_one, ax, aO, List.drop_succ_cons, List.drop_zero]; (repeat refine And.intro (by first | omega | assumption | exact rfl | exact ⟨n, 1, ⟨rfl, rfl, by decide⟩, by omega, by omega⟩) ?_); (try refine .inl ?_); apply k0; clear k0; simp only [zP, V, List.append_assoc, aN, ← i6])
   refine aj rfl fun _ k0 => ?_
   refine aK (h := mK (k := 1) (u := [(0, .vars 62 [.int .i64 m.inp, .int .i64 m.st, .list (.list (.int .i64)) m.nx, .list (.list (.int .i64)) m.ot, .rwc 1 ((n + 1 + D.length) + (cI m f (cw m ini cur a0 cur.length ((aG (ouL m cur a0)).getD i 0)) (bV m cur a0 cur.length ((aG (ouL m cur a0)).getD i 0)) w2 (n + 1 + D.length)).length)])]) rfl (by simp) (fun fl2 hfl2 => oa (A := [_, _]) (E := [_, _]) (IH (cw m ini cur a0 cur.length ((aG (ouL m cur a0)).getD i 0)) (bV m cur a0 cur.length ((aG (ouL m cur a0)).getD i 0)) w2 (n + 1 + D.length) fl2 (by omega) (by omega) (by rw [hfl2]; simp [aU, bm]; omega) hq1 hq2 hq3 hq4 hw2) (by simp [dQ, bM, cQ]) rfl rfl (by simp) (by intro k hk; simp at hk ⊢; omega))) rfl rfl (by first | exact rfl | (simp only [ev, zP, aa, V]; exact rfl)) (by simp only [zV, acs, reduceCtorEq, aa, V, ad, ag, af, ae, ai, aU, bm, ar, aP, au, az, hgi, Int.toNat_one, ax, aO, List.drop_succ_cons, List.drop_zero]) ?_
   apply k0; clear k0; simp only [zP, V, List.append_assoc, aN, ← i6]
   (refine aj rfl fun _ k0 => ?_; simp only [zO, zT, acs, reduceCtorEq, aa, V, ad, ag, af, ae, ai, aU, bm, ar, aP, au, az, hgi, Int.toNat_one, ax, aO, List.drop_succ_cons, List.drop_zero]; (repeat refine And.intro (by first | omega | assumption | exact rfl | exact ⟨n, 1, ⟨rfl, rfl, by decide⟩, by omega, by omega⟩) ?_); (try refine .inl ?_); apply k0; clear k0; simp only [zP, V, List.append_assoc, aN, ← i6])
   refine ao ?_
   refine ⟨by kernel_rfl, ?_⟩
   apply k30; clear k30; refine kp [0, 2, 6, 7, 9, 10, 11, 12, 80, 81, 82, 83, 92] ?_
   refine bu hP hN Try.mixed rfl ?_
   iterate 21 (refine aj rfl fun _ k0 => ?_; simp only [zE, op1, ev, lkp, d7, ca, iW, bZ, df, Nat.mul_one, ci, cT, acs, Ty.dflt, zG, cm, cG, Ty.size, ne_eq, not_false_eq_true, Int.natCast_one, Int.mul_one, jc, cC, cr, dS, dL, rep, bC, cq, fb, eB, cP, db, eH, Nat.div_one, cM, dg, dite_true, ep, reduceCtorEq, aa, V, ad, ag, af, ae, Try.el27, Try.el50, Try.fl58, Try.st52, Try.st58, Try.st62, Try.td1, Try.td2, Try.td27, Try.td3, Try.td50, Try.td52, Try.td58, Try.td60, Try.td62, ai, aU, bm, ar, aP, au, z8 hxl, hfl]; (repeat refine And.intro (by first | omega | assumption | exact rfl | exact ⟨n, 1, ⟨rfl, rfl, by decide⟩, by omega, by omega⟩) ?_); (try refine .inl ?_); apply k0; clear k0; simp only [zP, V, Aj hxl])
   refine ao ?_
   refine ⟨by kernel_rfl, ?_⟩
   apply k24; clear k24; refine kp [0, 2, 6, 7, 9, 10, 11, 12, 80, 81, 82, 83, 92] ?_
   refine am hP hN rfl ?_
   iterate 2 (refine aj rfl fun _ k0 => ?_; simp only [zO, zT, acs, reduceCtorEq, aa, V, ad, ag, af, ae, ai, aU, bm, ar, aP, au]; (repeat refine And.intro (by first | omega | assumption | exact rfl | exact ⟨n, 1, ⟨rfl, rfl, by decide⟩, by omega, by omega⟩) ?_); (try refine .inl ?_); apply k0; clear k0; simp only [zP, V])
   refine ao ?_
   refine ⟨_, _, ?_, aA [0, 2, 6, 7, 9, 80, 81, 82], i + 1, D ++ (cI m f (cw m ini cur a0 cur.length ((aG (ouL m cur a0)).getD i 0)) (bV m cur a0 cur.length ((aG (ouL m cur a0)).getD i 0)) w2 (n + 1 + D.length)), K ++ [(((aG (ouL m cur a0)).getD i 0), ((n + 1 + D.length : Nat) : Int), ())], by omega, hst9, by rw [ar]; omega, by rw [ar]; simp only [ax, aI]; omega, rfl, ?_⟩
   · omega
   · simp only [ar, ← Nat.add_assoc]; rfl
  (try simp only [zB, reduceCtorEq] at hc23)
  have hie : i = (aG (ouL m cur a0)).length := by omega
  refine aZ ?_
  apply k18; clear k18; refine kp [0, 2, 6, 7, 9, 80, 81, 82, 83] ?_
  refine ah fun _ k31 => ?_
  refine am hP hN rfl ?_
  iterate 2 (refine aj rfl fun _ k0 => ?_; simp only [zO, zT, acs, reduceCtorEq, aa, V, ad, ag, af, ae, ai, aU, bm, ar, aP, au]; (repeat refine And.intro (by first | omega | assumption | exact rfl | exact ⟨n, 1, ⟨rfl, rfl, by decide⟩, by omega, by omega⟩) ?_); (try refine .inl ?_); apply k0; clear k0; simp only [zP, V])
  refine ao ?_
  apply k31; clear k31; refine kp [0, 2, 6, 7, 9, 80, 81, 82, 83] ?_
  refine dy 3 1 (t := kdT) rfl rfl ?_
  simp only [aJ, bz, fr3, zS, aa, and_self, and_true, true_and, and_false, false_and, if_true, if_false, eq_self, reduceCtorEq, Nat.one_ne_zero, Nat.zero_ne_one]
  refine dh [6] ?_; simp only [cJ, lkp, zE, reduceCtorEq, aa]
  refine d8 (n := 3) (L1 := [_, _, _]) rfl rfl (by rw [hB]; simp) rfl (by simp [dQ, bM, cQ, dP]) ?_
  refine eQ (L1 := [_, _]) rfl (by rw [hB]; exact Nat.le_refl _) rfl (by simp [dQ, bM, cQ, dP]) ?_
  refine aE ?_
  refine ⟨by first | exact .inl rfl | exact .inr rfl, _, rfl, ?_⟩; simp only [zP, aa, V, ai, aU, bm, ar, aP, au]
  try refine ⟨?_, rfl⟩
  first
  | (rw [eX (by omega)]; all_goals rfl)
  | (rw [eS (by omega) (hW.symm.trans hWn)]; all_goals rfl)
  | (rw [da (by omega) hW.symm, gg hD hbrk, ax, show n + (D.length + 1) = n + 1 + D.length by omega]; all_goals rfl)
  | (rw [hie, aO] at hD
     rw [da (by omega) hW.symm, hD, ax, show n + (D.length + 1) = n + 1 + D.length by omega]; all_goals rfl)
 (try simp only [zB, reduceCtorEq] at hc11)
 refine ay ?_
 apply k8; clear k8; refine kp [0, 1, 2, 4, 6, 7, 36, 46] ?_
 refine ah fun _ k32 => ?_
 refine ah fun _ k33 => ?_
 obtain ⟨W, hW⟩ : ∃ W, W = gF m ini cur w := ⟨_, rfl⟩
 have hWs : dD m W := by rw [hW]; exact xy hw
 refine tM 2 (v' := .one (.list (.int .i64) W)) rfl (VLE.of_eq (by first | (show AV.one (.list (.int .i64) ((fdW m cur).getD [])) = _; rw [hW]; unfold gF; rw [if_pos (by omega)]; done) | (show AV.one (.list (.int .i64) w) = _; rw [hW]; unfold gF; rw [if_neg (by omega)]; done))) ?_
 refine am hP hN rfl ?_
 iterate 3 (refine aj rfl fun _ k0 => ?_; simp only [zO, zT, acs, reduceCtorEq, aa, V, ad, ag, af, ae, ai, aU, bm, ar, aP, au]; (repeat refine And.intro (by first | omega | assumption | exact rfl | exact ⟨n, 1, ⟨rfl, rfl, by decide⟩, by omega, by omega⟩) ?_); (try refine .inl ?_); apply k0; clear k0; simp only [zP, V])
 refine ao ?_
 apply k33; clear k33; refine kp [0, 1, 2, 4, 6, 7, 36, 46, 59] ?_
 refine cd (fun hc34 => ?_) (fun hc34 => ?_)
 ·(try simp only [zB, reduceCtorEq] at hc34)
  have hWn : W = [] := List.eq_nil_of_length_eq_zero (by omega)
  refine ah fun _ k35 => ?_
  refine am hP hN rfl ?_
  iterate 2 (refine aj rfl fun _ k0 => ?_; simp only [zO, zT, acs, reduceCtorEq, aa, V, ad, ag, af, ae, ai, aU, bm, ar, aP, au]; (repeat refine And.intro (by first | omega | assumption | exact rfl | exact ⟨n, 1, ⟨rfl, rfl, by decide⟩, by omega, by omega⟩) ?_); (try refine .inl ?_); apply k0; clear k0; simp only [zP, V])
  refine ao ?_
  apply k35; clear k35; refine kp [0, 1, 2, 4, 6, 7, 36, 46, 59] ?_
  refine dy 3 1 (t := kdT) rfl rfl ?_
  simp only [aJ, bz, fr3, zS, aa, and_self, and_true, true_and, and_false, false_and, if_true, if_false, eq_self, reduceCtorEq, Nat.one_ne_zero, Nat.zero_ne_one]
  refine dh [6] ?_; simp only [cJ, lkp, zE, reduceCtorEq, aa]
  refine d8 (n := 3) (L1 := [_, _, _]) rfl rfl (by rw [hB]; simp) rfl (by simp [dQ, bM, cQ, dP]) ?_
  refine eQ (L1 := [_, _]) rfl (by rw [hB]; exact Nat.le_refl _) rfl (by simp [dQ, bM, cQ, dP]) ?_
  refine aE ?_
  refine ⟨by first | exact .inl rfl | exact .inr rfl, _, rfl, ?_⟩; simp only [zP, aa, V, ai, aU, bm, ar, aP, au]
  try refine ⟨?_, rfl⟩
  first
  | (rw [eX (by omega)]; all_goals rfl)
  | (rw [eS (by omega) (hW.symm.trans hWn)]; all_goals rfl)
  | (rw [da (by omega) hW.symm, gg hD hbrk, ax, show n + (D.length + 1) = n + 1 + D.length by omega]; all_goals rfl)
  | (rw [hie, aO] at hD
     rw [da (by omega) hW.symm, hD, ax, show n + (D.length + 1) = n + 1 + D.length by omega]; all_goals rfl)
 (try simp only [zB, reduceCtorEq] at hc34)
 obtain ⟨a0, w2, hWc⟩ : ∃ a0 w2, W = a0 :: w2 := by
   cases W with
   | nil => simp at hc34
   | cons a0 w2 => exact ⟨_, _, rfl⟩
 subst hWc
 refine ay ?_
 apply k32; clear k32; refine kp [0, 1, 2, 4, 6, 7, 36, 46, 59] ?_
 refine ah fun _ k36 => ?_
 have ha0 : 0 ≤ a0 ∧ a0 < m.inp := hWs a0 (aV ..)
 have hw2 : dD m w2 := fun x hx => hWs x (aM _ hx)
 refine bu hP hN Try.mixed rfl ?_
 iterate 11 (refine aj rfl fun _ k0 => ?_; simp only [zE, op1, ev, lkp, d7, ca, iW, bZ, df, Nat.mul_one, ci, cT, acs, Ty.dflt, zG, cm, cG, Ty.size, ne_eq, not_false_eq_true, Int.natCast_one, Int.mul_one, ep, cr, bC, reduceCtorEq, aa, V, ad, ag, af, ae, Try.el27, Try.el41, Try.st52, Try.st62, Try.td1, Try.td27, Try.td3, Try.td41, Try.td52, Try.td60, Try.td62, ai, aU, bm, ar, aP, au, hfl]; (repeat refine And.intro (by first | omega | assumption | exact rfl | exact ⟨n, 1, ⟨rfl, rfl, by decide⟩, by omega, by omega⟩) ?_); (try refine .inl ?_); apply k0; clear k0; simp only [zP, V, zL hxl])
 refine ao ?_
 refine ⟨by kernel_rfl, ?_⟩
 apply k36; clear k36; refine kp [0, 1, 2, 4, 6, 7, 36, 46, 59] ?_
 refine ah fun _ k37 => ?_
 refine bu hP hN Try.mixed rfl ?_
 iterate 5 (refine aj rfl fun _ k0 => ?_; simp only [zO, zT, acs, reduceCtorEq, aa, V, ad, ag, af, ae, ai, aU, bm, ar, aP, au]; (repeat refine And.intro (by first | omega | assumption | exact rfl | exact ⟨n, 1, ⟨rfl, rfl, by decide⟩, by omega, by omega⟩) ?_); (try refine .inl ?_); apply k0; clear k0; simp only [zP, V])
 refine aj rfl fun _ k0 => ?_
 refine aK (h := jo (k := 0) (T := 62) (cs := [.int .i64 m.inp, .int .i64 m.st, .list (.list (.int .i64)) m.nx, .list (.list (.int .i64)) m.ot]) (c := .rwc 1 (n + 1)) rfl (by simp) (fun x => p7 m x ini cur a0 hm hs ha0 h0 hl hil _ 0 rfl)) rfl rfl (by first | exact rfl | (simp only [ev, zP, aa, V]; exact rfl)) (by simp only [zV, acs, reduceCtorEq, aa, V, ad, ag, af, ae, ai, aU, bm, ar, aP, au]) ?_
 apply k0; clear k0; simp only [zP, V]
 iterate 5 (refine aj rfl fun _ k0 => ?_; simp only [zO, zT, acs, reduceCtorEq, aa, V, ad, ag, af, ae, ai, aU, bm, ar, aP, au]; (repeat refine And.intro (by first | omega | assumption | exact rfl | exact ⟨n, 1, ⟨rfl, rfl, by decide⟩, by omega, by omega⟩) ?_); (try refine .inl ?_); apply k0; clear k0; simp only [zP, V])
 refine ao ?_
 refine ⟨by kernel_rfl, ?_⟩
 apply k37; clear k37; refine kp [0, 1, 2, 4, 6, 7, 8, 9, 36, 46, 59] ?_
 refine ah fun _ k38 => ?_
 refine ah fun _ k39 => ?_
 have hkl := iq (ouL m cur a0)
 have hol : (ouL m cur a0).length = cur.length := aw ..
 refine am hP hN rfl ?_
 iterate 3 (refine aj rfl fun _ k0 => ?_; simp only [zO, zT, acs, reduceCtorEq, aa, V, ad, ag, af, ae, ai, aU, bm, ar, aP, au]; (repeat refine And.intro (by first | omega | assumption | exact rfl | exact ⟨n, 1, ⟨rfl, rfl, by decide⟩, by omega, by omega⟩) ?_); (try refine .inl ?_); apply k0; clear k0; simp only [zP, V])
 refine ao ?_
 apply k39; clear k39; refine kp [0, 1, 2, 4, 6, 7, 8, 9, 36, 46, 59, 80, 81, 82] ?_
 refine aD ?_
 refine bn (fun n40 s40 => ∃ (i : Nat) (D : List bj) (K : List dX), (i ≤ (aG (ouL m cur a0)).length) ∧ (((aG (ouL m cur a0)).take i).foldl (dN n (fun i c k => cI m f i c w2 k) m ini cur a0) ([], []) = (D, K)) ∧ (n + 1 + D.length ≤ 4097) ∧ (K.length ≤ i) ∧ n40 = (aG (ouL m cur a0)).length - i ∧ s40 = { env := [(0, .one (.ptr 0 0 0 0)), (2, .one (.list (.int .i64) (a0 :: w2))), (6, .one (.int .i64 0)), (7, .one (.int .i64 (n : Int))), (9, .one (.list (.pair (.list (.int .i64)) (.pair (.list (.int .i64)) .unit)) (mh m ini cur a0 (aG (ouL m cur a0))))), (80, .one (.list (.int .i64) (aG (ouL m cur a0)))), (81, .one (.int .i64 ((aG (ouL m cur a0)).length : Int))), (82, .one (.int .i64 (i : Int)))], L := [.vars 62 [.int .i64 m.inp, .int .i64 m.st, .list (.list (.int .i64)) m.nx, .list (.list (.int .i64)) m.ot, .rwc 1 (n + 1 + D.length)], .rowc 52 3 (n + 1 + D.length) (eR fl ++ .list (.int .i64) ini :: .int .i64 a0 :: .row 3 K.length :: ndC D), .vars 66 [.list (.int .i64) ini, .list (.int .i64) cur], .row kdT 58 K.length K] }) ?_ ?_
 ·exact ⟨_, _, aA [0, 2, 6, 7, 9, 80, 81, 82], 0, [], [], Nat.zero_le _, rfl, by simp only [aI]; omega, Nat.zero_le _, rfl, rfl⟩
 rintro n40 s40 ⟨i, D, K, hi, hD, hDl, hKl, rfl, rfl⟩
 refine ah fun _ k41 => ?_
 refine am hP hN rfl ?_
 (refine aj rfl fun _ k0 => ?_; simp only [zO, zT, acs, reduceCtorEq, aa, V, ad, ag, af, ae, ai, aU, bm, ar, aP, au]; (repeat refine And.intro (by first | omega | assumption | exact rfl | exact ⟨n, 1, ⟨rfl, rfl, by decide⟩, by omega, by omega⟩) ?_); (try refine .inl ?_); apply k0; clear k0; simp only [zP, V])
 refine ao ?_
 apply k41; clear k41; refine kp [0, 2, 6, 7, 9, 80, 81, 82, 83] ?_
 refine ah fun _ k42 => ?_
 refine cd (fun hc43 => ?_) (fun hc43 => ?_)
 ·(try simp only [zB, reduceCtorEq] at hc43)
  refine ay ?_
  apply k42; clear k42; refine kp [0, 2, 6, 7, 9, 80, 81, 82, 83] ?_
  refine ah fun _ k44 => ?_
  refine aD ?_
  refine ah fun _ k45 => ?_
  refine am hP hN rfl ?_
  iterate 5 (refine aj rfl fun _ k0 => ?_; simp only [zO, zT, acs, reduceCtorEq, aa, V, ad, ag, af, ae, ai, aU, bm, ar, aP, au]; (repeat refine And.intro (by first | omega | assumption | exact rfl | exact ⟨n, 1, ⟨rfl, rfl, by decide⟩, by omega, by omega⟩) ?_); (try refine .inl ?_); apply k0; clear k0; simp only [zP, V])
  refine ao ?_
  apply k45; clear k45; refine kp [0, 2, 6, 7, 9, 10, 11, 80, 81, 82, 83] ?_
  refine ah fun _ k46 => ?_
  refine ah fun _ k47 => ?_
  have hdvD : (n * 3 + (D.length * 3 + 1 + 1 + 1)) / 3 = n + 1 + D.length := by omega
  refine am hP hN rfl ?_
  iterate 6 (refine aj rfl fun _ k0 => ?_; simp only [zO, zT, acs, reduceCtorEq, aa, V, ad, ag, af, ae, ai, aU, bm, ar, aP, au, hfl, ax, hdvD]; (repeat refine And.intro (by first | omega | assumption | exact rfl | exact ⟨n, 1, ⟨rfl, rfl, by decide⟩, by omega, by omega⟩) ?_); (try refine .inl ?_); apply k0; clear k0; simp only [zP, V])
  refine ao ?_
  apply k47; clear k47; refine kp [0, 2, 6, 7, 9, 10, 11, 80, 81, 82, 83, 92] ?_
  refine cd (fun hc48 => ?_) (fun hc48 => ?_)
  ·(try simp only [zB, reduceCtorEq] at hc48)
   have hbrk : 4096 < n + 1 + D.length := by omega
   refine aZ ?_
   apply k38; clear k38; refine kp [0, 2, 6, 7, 9, 10, 11, 80, 81, 82, 83, 92] ?_
   refine ah fun _ k49 => ?_
   refine am hP hN rfl ?_
   iterate 2 (refine aj rfl fun _ k0 => ?_; simp only [zO, zT, acs, reduceCtorEq, aa, V, ad, ag, af, ae, ai, aU, bm, ar, aP, au]; (repeat refine And.intro (by first | omega | assumption | exact rfl | exact ⟨n, 1, ⟨rfl, rfl, by decide⟩, by omega, by omega⟩) ?_); (try refine .inl ?_); apply k0; clear k0; simp only [zP, V])
   refine ao ?_
   apply k49; clear k49; refine kp [0, 2, 6, 7, 9, 10, 11, 80, 81, 82, 83, 92] ?_
   refine dy 3 1 (t := kdT) rfl rfl ?_
   simp only [aJ, bz, fr3, zS, aa, and_self, and_true, true_and, and_false, false_and, if_true, if_false, eq_self, reduceCtorEq, Nat.one_ne_zero, Nat.zero_ne_one]
   refine dh [6] ?_; simp only [cJ, lkp, zE, reduceCtorEq, aa]
   refine d8 (n := 3) (L1 := [_, _, _]) rfl rfl (by rw [hB]; simp) rfl (by simp [dQ, bM, cQ, dP]) ?_
   refine eQ (L1 := [_, _]) rfl (by rw [hB]; exact Nat.le_refl _) rfl (by simp [dQ, bM, cQ, dP]) ?_
   refine aE ?_
   refine ⟨by first | exact .inl rfl | exact .inr rfl, _, rfl, ?_⟩; simp only [zP, aa, V, ai, aU, bm, ar, aP, au]
   try refine ⟨?_, rfl⟩
   first
   | (rw [eX (by omega)]; all_goals rfl)
   | (rw [eS (by omega) (hW.symm.trans hWn)]; all_goals rfl)
   | (rw [da (by omega) hW.symm, gg hD hbrk, ax, show n + (D.length + 1) = n + 1 + D.length by omega]; all_goals rfl)
   | (rw [hie, aO] at hD
      rw [da (by omega) hW.symm, hD, ax, show n + (D.length + 1) = n + 1 + D.length by omega]; all_goals rfl)
  (try simp only [zB, reduceCtorEq] at hc48)
  refine ay ?_
  apply k46; clear k46; refine kp [0, 2, 6, 7, 9, 10, 11, 80, 81, 82, 83, 92] ?_
  refine ah fun _ k50 => ?_
  have hgi := tU (m := m) (ini := ini) (cur := cur) (a := a0) (ks := (aG (ouL m cur a0))) (i := i) (by omega)
  have hin : ((aG (ouL m cur a0)).getD i 0) ∈ (aG (ouL m cur a0)) := br (by omega)
  have hq1 := jA hm (o := ((aG (ouL m cur a0)).getD i 0)) ha0 hs
  have hq2 := fA m ini cur a0 ((aG (ouL m cur a0)).getD i 0) cur.length
  have hq3 := mu hin
  have hq4 : (bV m cur a0 cur.length ((aG (ouL m cur a0)).getD i 0)).length ≤ 1000 := Nat.le_trans mv hl
  have hNle := mF m f (cw m ini cur a0 cur.length ((aG (ouL m cur a0)).getD i 0)) (bV m cur a0 cur.length ((aG (ouL m cur a0)).getD i 0)) w2 (n + 1 + D.length) (by omega)
  have hst9 := mW (n := n) (rec := (fun i c k => cI m f i c w2 k)) (m := m) (ini := ini) (cur := cur) (a := a0) (i := i) (by omega) hD (by omega)
  refine bu hP hN Try.mixed rfl ?_
  iterate 6 (refine aj rfl fun _ k0 => ?_; simp only [zO, zT, acs, reduceCtorEq, aa, V, ad, ag, af, ae, ai, aU, bm, ar, aP, au, az, hgi, Int.toNat_one, ax, aO, List.drop_succ_cons, List.drop_zero]; (repeat refine And.intro (by first | omega | assumption | exact rfl | exact ⟨n, 1, ⟨rfl, rfl, by decide⟩, by omega, by omega⟩) ?_); (try refine .inl ?_); apply k0; clear k0; simp only [zP, V, List.append_assoc, aN, ← i6])
  (refine aj rfl fun _ k0 => ?_; simp only [zE, op1, ev, lkp, d7, ca, cG, zG, Ty.dflt, Ty.size, Nat.mul_one, ne_eq, not_false_eq_true, Int.natCast_one, Int.mul_one, df, ci, cT, acs, cm, hU, bnd, reduceCtorEq, aa, V, ad, ag, af, ae, Try.el41, Try.el91, Try.st66, Try.td3, Try.td41, Try.td60, Try.td66, Try.td91, ai, aU, bm, ar, aP, au, az, hgi, Int.toNat_one, ax, aO, List.drop_succ_cons, List.drop_zero]; (repeat refine And.intro (by first | omega | assumption | exact rfl | exact ⟨n, 1, ⟨rfl, rfl, by decide⟩, by omega, by omega⟩) ?_); (try refine .inl ?_); apply k0; clear k0; simp only [zP, V, List.append_assoc, aN, ← i6])
  refine aj rfl fun _ k0 => ?_
  refine aK (h := mK (k := 1) (u := [(0, .vars 62 [.int .i64 m.inp, .int .i64 m.st, .list (.list (.int .i64)) m.nx, .list (.list (.int .i64)) m.ot, .rwc 1 ((n + 1 + D.length) + (cI m f (cw m ini cur a0 cur.length ((aG (ouL m cur a0)).getD i 0)) (bV m cur a0 cur.length ((aG (ouL m cur a0)).getD i 0)) w2 (n + 1 + D.length)).length)])]) rfl (by simp) (fun fl2 hfl2 => oa (A := [_, _]) (E := [_, _]) (IH (cw m ini cur a0 cur.length ((aG (ouL m cur a0)).getD i 0)) (bV m cur a0 cur.length ((aG (ouL m cur a0)).getD i 0)) w2 (n + 1 + D.length) fl2 (by omega) (by omega) (by rw [hfl2]; simp [aU, bm]; omega) hq1 hq2 hq3 hq4 hw2) (by simp [dQ, bM, cQ]) rfl rfl (by simp) (by intro k hk; simp at hk ⊢; omega))) rfl rfl (by first | exact rfl | (simp only [ev, zP, aa, V]; exact rfl)) (by simp only [zV, acs, reduceCtorEq, aa, V, ad, ag, af, ae, ai, aU, bm, ar, aP, au, az, hgi, Int.toNat_one, ax, aO, List.drop_succ_cons, List.drop_zero]) ?_
  apply k0; clear k0; simp only [zP, V, List.append_assoc, aN, ← i6]
  (refine aj rfl fun _ k0 => ?_; simp only [zO, zT, acs, reduceCtorEq, aa, V, ad, ag, af, ae, ai, aU, bm, ar, aP, au, az, hgi, Int.toNat_one, ax, aO, List.drop_succ_cons, List.drop_zero]; (repeat refine And.intro (by first | omega | assumption | exact rfl | exact ⟨n, 1, ⟨rfl, rfl, by decide⟩, by omega, by omega⟩) ?_); (try refine .inl ?_); apply k0; clear k0; simp only [zP, V, List.append_assoc, aN, ← i6])
  refine ao ?_
  refine ⟨by kernel_rfl, ?_⟩
  apply k50; clear k50; refine kp [0, 2, 6, 7, 9, 10, 11, 12, 80, 81, 82, 83, 92] ?_
  refine bu hP hN Try.mixed rfl ?_
  iterate 21 (refine aj rfl fun _ k0 => ?_; simp only [zE, op1, ev, lkp, d7, ca, iW, bZ, df, Nat.mul_one, ci, cT, acs, Ty.dflt, zG, cm, cG, Ty.size, ne_eq, not_false_eq_true, Int.natCast_one, Int.mul_one, jc, cC, cr, dS, dL, rep, bC, cq, fb, eB, cP, db, eH, Nat.div_one, cM, dg, dite_true, ep, reduceCtorEq, aa, V, ad, ag, af, ae, Try.el27, Try.el50, Try.fl58, Try.st52, Try.st58, Try.st62, Try.td1, Try.td2, Try.td27, Try.td3, Try.td50, Try.td52, Try.td58, Try.td60, Try.td62, ai, aU, bm, ar, aP, au, z8 hxl, hfl]; (repeat refine And.intro (by first | omega | assumption | exact rfl | exact ⟨n, 1, ⟨rfl, rfl, by decide⟩, by omega, by omega⟩) ?_); (try refine .inl ?_); apply k0; clear k0; simp only [zP, V, Aj hxl])
  refine ao ?_
  refine ⟨by kernel_rfl, ?_⟩
  apply k44; clear k44; refine kp [0, 2, 6, 7, 9, 10, 11, 12, 80, 81, 82, 83, 92] ?_
  refine am hP hN rfl ?_
  iterate 2 (refine aj rfl fun _ k0 => ?_; simp only [zO, zT, acs, reduceCtorEq, aa, V, ad, ag, af, ae, ai, aU, bm, ar, aP, au]; (repeat refine And.intro (by first | omega | assumption | exact rfl | exact ⟨n, 1, ⟨rfl, rfl, by decide⟩, by omega, by omega⟩) ?_); (try refine .inl ?_); apply k0; clear k0; simp only [zP, V])
  refine ao ?_
  refine ⟨_, _, ?_, aA [0, 2, 6, 7, 9, 80, 81, 82], i + 1, D ++ (cI m f (cw m ini cur a0 cur.length ((aG (ouL m cur a0)).getD i 0)) (bV m cur a0 cur.length ((aG (ouL m cur a0)).getD i 0)) w2 (n + 1 + D.length)), K ++ [(((aG (ouL m cur a0)).getD i 0), ((n + 1 + D.length : Nat) : Int), ())], by omega, hst9, by rw [ar]; omega, by rw [ar]; simp only [ax, aI]; omega, rfl, ?_⟩
  · omega
  · simp only [ar, ← Nat.add_assoc]; rfl
 (try simp only [zB, reduceCtorEq] at hc43)
 have hie : i = (aG (ouL m cur a0)).length := by omega
 refine aZ ?_
 apply k38; clear k38; refine kp [0, 2, 6, 7, 9, 80, 81, 82, 83] ?_
 refine ah fun _ k51 => ?_
 refine am hP hN rfl ?_
 iterate 2 (refine aj rfl fun _ k0 => ?_; simp only [zO, zT, acs, reduceCtorEq, aa, V, ad, ag, af, ae, ai, aU, bm, ar, aP, au]; (repeat refine And.intro (by first | omega | assumption | exact rfl | exact ⟨n, 1, ⟨rfl, rfl, by decide⟩, by omega, by omega⟩) ?_); (try refine .inl ?_); apply k0; clear k0; simp only [zP, V])
 refine ao ?_
 apply k51; clear k51; refine kp [0, 2, 6, 7, 9, 80, 81, 82, 83] ?_
 refine dy 3 1 (t := kdT) rfl rfl ?_
 simp only [aJ, bz, fr3, zS, aa, and_self, and_true, true_and, and_false, false_and, if_true, if_false, eq_self, reduceCtorEq, Nat.one_ne_zero, Nat.zero_ne_one]
 refine dh [6] ?_; simp only [cJ, lkp, zE, reduceCtorEq, aa]
 refine d8 (n := 3) (L1 := [_, _, _]) rfl rfl (by rw [hB]; simp) rfl (by simp [dQ, bM, cQ, dP]) ?_
 refine eQ (L1 := [_, _]) rfl (by rw [hB]; exact Nat.le_refl _) rfl (by simp [dQ, bM, cQ, dP]) ?_
 refine aE ?_
 refine ⟨by first | exact .inl rfl | exact .inr rfl, _, rfl, ?_⟩; simp only [zP, aa, V, ai, aU, bm, ar, aP, au]
 try refine ⟨?_, rfl⟩
 first
 | (rw [eX (by omega)]; all_goals rfl)
 | (rw [eS (by omega) (hW.symm.trans hWn)]; all_goals rfl)
 | (rw [da (by omega) hW.symm, gg hD hbrk, ax, show n + (D.length + 1) = n + 1 + D.length by omega]; all_goals rfl)
 | (rw [hie, aO] at hD
    rw [da (by omega) hW.symm, hD, ax, show n + (D.length + 1) = n + 1 + D.length by omega]; all_goals rfl)
theorem vV (m : Mly) (hm : MOK m) : ∀ (f : Nat) (ini cur w : List Int) (n : Nat) (fl : List Value), 4098 ≤ f + n → n ≤ 4096 → fl.length = n * 3 → dm m cur → ini.length = cur.length → 0 < cur.length → cur.length ≤ 1000 → dD m w → eO Try.prog [.vars 62 [.int .i64 m.inp, .int .i64 m.st, .list (.list (.int .i64)) m.nx, .list (.list (.int .i64)) m.ot, .rwc 1 n], .rowc 52 3 n (eR fl)] 33 [.one (.ptr 0 0 0 0), .agg [.list (.int .i64) ini, .list (.int .i64) cur], .one (.list (.int .i64) w)] { av := .one (.int .i64 (n : Int)), upd := [(0, .vars 62 [.int .i64 m.inp, .int .i64 m.st, .list (.list (.int .i64)) m.nx, .list (.list (.int .i64)) m.ot, .rwc 1 (n + (cI m f ini cur w n).length)]), (1, .rowc 52 3 (n + (cI m f ini cur w n).length) (eR fl ++ ndC (cI m f ini cur w n)))], fp := [0, 1] }
  | 0, ini, cur, w, n, fl, hf, hn, _, _, _, _, _, _ => by omega
  | f + 1, ini, cur, w, n, fl, hf, hn, hfl, hs, hil, h0, hl, hw => Ad f m hm (vV m hm f) ini cur w n fl hf hn hfl hs hil h0 hl hw
theorem pY {C : Ctx} {L : List AO} {σ : Sig} {w : World} {k j sz : Nat} {e T : TypeId} {cs : List AC} (h : INV C L σ w) (ht : 0 < sz) (hk : L[k]? = some (.vars T cs)) (hj : cs[j]? = some .nils) :
    ∃ σ', INV C ((L ++ [AO.rowc e sz 0 []]).set k (AO.vars T (cs.set j (.rwc L.length 0)))) σ' w ∧ dT C L σ w ((L ++ [AO.rowc e sz 0 []]).set k (AO.vars T (cs.set j (.rwc L.length 0)))) σ' w := by
  have hlt : k < L.length := (List.getElem?_eq_some_iff.1 hk).1
  obtain ⟨σ1, d1, d2, d3⟩ := eg (C := C) (L := L) (σ := σ) (w := w) (w' := w) (v := .one (.rwc L.length 0)) (fp := []) (u := .slice none 0 0) (g := .slice none 0 0) (ob := .rowc e sz 0 []) h (Nat.le_refl _) rfl rfl rfl (fun _ _ => rfl) (fun b hb => by cases hb)
    (fun _ => ⟨[], 0, ⟨(Nat.zero_mul sz).symm, .inl ⟨by rw [bb], rfl⟩⟩, ht, (Nat.zero_mul sz).symm, trivial⟩) ⟨rfl, .rowc e sz 0 [], by simp, Nat.le_refl _, fun _ _ => ⟨⟨_, _, _, rfl⟩, by rw [bb]⟩⟩
  have e1 : app L { av := .one (.rwc L.length 0), new := [AO.rowc e sz 0 []], fp := [] } = L ++ [AO.rowc e sz 0 []] := rfl
  rw [e1] at d1 d2 d3
  have hk1 : (L ++ [AO.rowc e sz 0 []])[k]? = some (.vars T cs) := by rw [List.getElem?_append_left hlt]; exact hk
  obtain ⟨b, vs, q1, q2, q3⟩ := d1.ob k _ hk1
  have hlast : (L ++ [AO.rowc e sz 0 []])[L.length]? = some (.rowc e sz 0 []) := by simp
  have hnil : .slice none 0 0 = σ1 L.length := by
    obtain ⟨_, ob, p2, _, p4⟩ := d2
    rw [hlast] at p2; cases p2
    exact (p4 rfl rfl).2
  obtain ⟨b0, vs0, r1, r2, r3⟩ := h.ob k _ hk
  obtain ⟨u, hu0, hcu0⟩ := r3.at_ hj
  obtain ⟨u, hu, hcu⟩ : ∃ u, vs[j]? = some u ∧ RC C (L ++ [AO.rowc e sz 0 []]) σ1 w .nils u := q3.at_ hj
  have hvs : vs.set j u = vs := by
    apply List.ext_getElem?
    intro i
    rw [List.getElem?_set]
    split
    · rename_i e; subst e; split
      · exact hu.symm
      · rename_i hh; exact absurd (List.getElem?_eq_some_iff.1 hu).1 hh
    · rfl
  obtain ⟨j1, j2⟩ := jN d1 hk1 q1 q2 (cs' := cs.set j (.rwc L.length 0)) (by
    rw [← hvs]
    exact q3.set j ⟨hcu.1, _, hlast, Nat.le_refl _, fun _ _ => ⟨⟨_, _, _, rfl⟩, hcu.2.trans hnil⟩⟩)
  exact ⟨σ1, j1, d3.trans j2⟩
theorem zh (m : Mly) (hm : MOK m) (all : List Int) (hs : dm m all) (h0 : 0 < all.length) (hl : all.length ≤ 1000) (L0 : List AO) (m0 : Nat) (hm0 : L0[m0]? = some (.vars 62 [.int .i64 m.inp, .int .i64 m.st, .list (.list (.int .i64)) m.nx, .list (.list (.int .i64)) m.ot, .nils])) :
    eO Try.prog L0 33 (List.map (mv1 m0) [.one (.ptr 0 0 0 0), .agg [.list (.int .i64) all, .list (.int .i64) all], .one .nils]) { av := .one (.int .i64 0), upd := [(m0, .vars 62 [.int .i64 m.inp, .int .i64 m.st, .list (.list (.int .i64)) m.nx, .list (.list (.int .i64)) m.ot, .list ndT (cI m 4098 all all [] 0)])], fp := [m0] } := by
  have hc := vV m hm 4098 all all [] 0 [] (by omega) (by omega) rfl hs rfl h0 hl (fun x hx => by cases hx)
  refine rh (cs := [.int .i64 m.inp, .int .i64 m.st, .list (.list (.int .i64)) m.nx, .list (.list (.int .i64)) m.ot, .nils]) (cs' := [.int .i64 m.inp, .int .i64 m.st, .list (.list (.int .i64)) m.nx, .list (.list (.int .i64)) m.ot, .list ndT (cI m 4098 all all [] 0)]) hc.1 rfl rfl (fun C σ w vs hP hI ha => ?_) L0 m0 hm0
  match vs, ha with
  | [v0, v1, v2], ⟨a0, a1, a2, _⟩ =>
  obtain ⟨σ1, d1, d3⟩ := pY (k := 0) (j := 4) (sz := 3) (e := 52) hI (by decide) rfl rfl
  refine (hc.2 C _ σ1 w [v0, v1, v2] hP d1 ⟨d3.rv a0, d3.rv a1, m7 (bo rfl) _ _ _ _ _ (d3.rv a2), trivial⟩ (fun _ _ => rfl) rfl).mono fun e w' ⟨v, he, σ', g1, g2, g3⟩ => ?_
  have hlen : (eR [] ++ ndC (cI m 4098 all all [] 0)).length = (cI m 4098 all all [] 0).length * ndT.size := bm _
  obtain ⟨i1, i2⟩ := lz (k := 1) (t := ndT) (n := (cI m 4098 all all [] 0).length) (e := 52) (v := 0 + (cI m 4098 all all [] 0).length) (cs := eR [] ++ ndC (cI m 4098 all all [] 0)) g1 rfl (lL ndT _) hlen
  obtain ⟨b, us, r1, r2, r3⟩ := g1.ob 0 _ rfl
  match us, r3 with
  | [u0, u1, u2, u3, u4], ⟨c0, c1, c2, c3, c4, _⟩ =>
  have hnew : RC C [.vars 62 [.int .i64 m.inp, .int .i64 m.st, .list (.list (.int .i64)) m.nx, .list (.list (.int .i64)) m.ot, .rwc 1 (0 + (cI m 4098 all all [] 0).length)], .row ndT 52 (0 + (cI m 4098 all all [] 0).length + 1) (cI m 4098 all all [] 0)] σ' w' (.row 1 (0 + (cI m 4098 all all [] 0).length + 1)) u4 := by
    obtain ⟨q1, ob, q2, q3, q4⟩ := c4
    cases q2
    exact ⟨q1, .row ndT 52 (0 + (cI m 4098 all all [] 0).length + 1) (cI m 4098 all all [] 0), rfl, Nat.le_refl _, fun _ _ => ⟨⟨_, _, _, rfl⟩, (q4 rfl rfl).2⟩⟩
  obtain ⟨j1, j2⟩ := jN (k := 0) (T := 62) (cs' := [.int .i64 m.inp, .int .i64 m.st, .list (.list (.int .i64)) m.nx, .list (.list (.int .i64)) m.ot, .row 1 (0 + (cI m 4098 all all [] 0).length + 1)]) i1 rfl r1 r2 ⟨i2 _ _ c0, i2 _ _ c1, i2 _ _ c2, i2 _ _ c3, hnew, trivial⟩
  refine ⟨_, σ', .one (.int .i64 0), v, he, ⟨[.int .i64 m.inp, .int .i64 m.st, .list (.list (.int .i64)) m.nx, .list (.list (.int .i64)) m.ot, .row 1 (0 + (cI m 4098 all all [] 0).length + 1)], [.row ndT 52 (0 + (cI m 4098 all all [] 0).length + 1) (cI m 4098 all all [] 0)], rfl, ?_, rfl⟩, j1, j2.rv (i2.rv g2), ((d3.trans g3).trans i2).trans j2⟩
  show [_, _, _, _, if _ then _ else _] = _
  rw [if_pos rfl]; rfl
theorem jy (m : Mly) (hn : m.nx.length ≤ 1000) : cb Try.prog 34 [m.av] (.one (.list (.int .i64) ((List.range m.nx.length).map fun (i : Nat) => (i : Int)))) := by
 refine aT Try.func34 rfl (by kernel_rfl) (Nat.le_of_ble_eq_true rfl) rfl fun C hP hN hB => ?_
 replace hN : C.N = 20 := hN
 simp only [bc, V]
 refine ah fun _ k1 => ?_
 refine am hP hN rfl ?_
 iterate 2 (refine aj rfl fun _ k0 => ?_; simp only [zO, zT, acs, reduceCtorEq, aa, V, ad, ag, af, ae, Mly.av, ai, aB]; (repeat refine an ?_); (try refine .inl ?_); apply k0; clear k0; simp only [zP, V])
 refine ao ?_
 apply k1; clear k1; refine kp [0, 1, 2] ?_
 refine ah fun _ k2 => ?_
 refine am hP hN rfl ?_
 iterate 3 (refine aj rfl fun _ k0 => ?_; simp only [zO, zT, acs, reduceCtorEq, aa, V, ad, ag, af, ae, Mly.av, ai, aB]; (repeat refine an ?_); (try refine .inl ?_); apply k0; clear k0; simp only [zP, V])
 (refine aj rfl fun _ k0 => ?_; simp only [zE, op1, ev, lkp, d7, ca, bZ, df, Nat.mul_one, ci, cT, acs, Ty.dflt, zG, cm, cq, fb, eB, cP, db, eH, Nat.div_one, cM, dg, Ty.size, bC, dite_true, cR, reduceCtorEq, aa, V, ad, ag, af, ae, Try.el22, Try.el41, Try.st24, Try.td2, Try.td22, Try.td24, Try.td3, Try.td41, Mly.av, ai, aB]; (repeat refine an ?_); (try refine .inl ?_); apply k0; clear k0; simp only [zP, V])
 (refine aj rfl fun _ k0 => ?_; simp only [zO, zT, acs, reduceCtorEq, aa, V, ad, ag, af, ae, Mly.av, ai, aB]; (repeat refine an ?_); (try refine .inl ?_); apply k0; clear k0; simp only [zP, V])
 refine ao ?_
 apply k2; clear k2; refine kp [0, 1, 2, 3] ?_
 refine ah fun _ k3 => ?_
 refine ah fun _ k4 => ?_
 refine am hP hN rfl ?_
 iterate 3 (refine aj rfl fun _ k0 => ?_; simp only [zO, zT, acs, reduceCtorEq, aa, V, ad, ag, af, ae, Mly.av, ai, aB]; (repeat refine an ?_); (try refine .inl ?_); apply k0; clear k0; simp only [zP, V])
 refine ao ?_
 apply k4; clear k4; refine kp [0, 1, 2, 3, 10, 11] ?_
 refine aD ?_
 refine bn (fun n5 s5 => ∃ (k : Nat), (k ≤ m.nx.length) ∧ n5 = m.nx.length - k ∧ s5 = { env := [(2, .one .nils), (3, .one (.row 1 0)), (10, .one (.int .i64 (m.nx.length : Int))), (11, .one (.int .i64 (k : Int)))], L := [.vars 24 [.int .i64 m.inp, .int .i64 m.st, .list (.list (.int .i64)) m.nx, .list (.list (.int .i64)) m.ot], .row (.int .i64) 3 0 (prL (fun i => (i : Int)) m.nx.length k 0)] }) ?_ ?_
 ·refine ⟨_, _, aA [2, 3, 10, 11], 0, Nat.zero_le _, rfl, ?_⟩
  rw [A3]; rfl
 rintro n5 s5 ⟨k, hk, rfl, rfl⟩
 refine ah fun _ k6 => ?_
 refine am hP hN rfl ?_
 (refine aj rfl fun _ k0 => ?_; simp only [zO, zT, acs, reduceCtorEq, aa, V, ad, ag, af, ae, Mly.av, ai, aB]; (repeat refine an ?_); (try refine .inl ?_); apply k0; clear k0; simp only [zP, V])
 refine ao ?_
 apply k6; clear k6; refine kp [2, 3, 10, 11, 12] ?_
 refine ah fun _ k7 => ?_
 refine cd (fun hc8 => ?_) (fun hc8 => ?_)
 ·(try simp only [zB, reduceCtorEq] at hc8)
  refine ay ?_
  apply k7; clear k7; refine kp [2, 3, 10, 11, 12] ?_
  refine ah fun _ k9 => ?_
  refine aD ?_
  refine ah fun _ k10 => ?_
  refine am hP hN rfl ?_
  iterate 2 (refine aj rfl fun _ k0 => ?_; simp only [zO, zT, acs, reduceCtorEq, aa, V, ad, ag, af, ae, Mly.av, ai, aB]; (repeat refine an ?_); (try refine .inl ?_); apply k0; clear k0; simp only [zP, V])
  refine ao ?_
  apply k10; clear k10; refine kp [2, 3, 4, 10, 11, 12] ?_
  have hp9 := uZ (f := fun i => (i : Int)) (n := m.nx.length) (s := k) (by omega)
  refine am hP hN rfl ?_
  iterate 5 (refine aj rfl fun _ k0 => ?_; simp only [zO, zT, acs, reduceCtorEq, aa, V, ad, ag, af, ae, Mly.av, ai, aB, pH]; (repeat refine an ?_); (try refine .inl ?_); apply k0; clear k0; simp only [zP, V])
  refine ao ?_
  apply k9; clear k9; refine kp [2, 3, 4, 10, 11, 12] ?_
  refine am hP hN rfl ?_
  iterate 2 (refine aj rfl fun _ k0 => ?_; simp only [zO, zT, acs, reduceCtorEq, aa, V, ad, ag, af, ae, Mly.av, ai, aB]; (repeat refine an ?_); (try refine .inl ?_); apply k0; clear k0; simp only [zP, V])
  refine ao ?_
  refine ⟨_, _, ?_, aA [2, 3, 10, 11], k + 1, by omega, rfl, ?_⟩
  · omega
  · rw [hp9, ← sR]; rfl
 (try simp only [zB, reduceCtorEq] at hc8)
 refine aZ ?_
 apply k3; clear k3; refine kp [2, 3, 10, 11, 12] ?_
 refine ah fun _ k11 => ?_
 refine dn 1 rfl ?_; simp only [aJ, bz, zS, aa, and_self, and_true, true_and, and_false, false_and, if_true, if_false, eq_self, reduceCtorEq, Nat.one_ne_zero, Nat.zero_ne_one]
 have hk9 : k = m.nx.length := by omega
 rw [hk9, v7]
 refine am hP hN rfl ?_
 iterate 2 (refine aj rfl fun _ k0 => ?_; simp only [zO, zT, acs, reduceCtorEq, aa, V, ad, ag, af, ae, Mly.av, ai, aB]; (repeat refine an ?_); (try refine .inl ?_); apply k0; clear k0; simp only [zP, V])
 refine ao ?_
 apply k11; clear k11; refine kp [2, 3, 10, 11, 12] ?_
 refine aE ?_
 refine ⟨nr, _, rfl, ?_⟩; simp only [zF, zP, aa, V, Mly.av, ai, aB]
 refine VLE.of_eq ?_
 rfl
set_option maxHeartbeats 1000000 in
theorem na (m : Mly) : cb Try.prog 11 [m.av] (.tup [.agg [.list ndT (iy m)], .one (.bool (lK m)), .one (.int .i64 (dE m))]) := by
 have hbl := yN m
 refine aT Try.func11 rfl (by kernel_rfl) (Nat.le_of_ble_eq_true rfl) rfl fun C hP hN hB => ?_
 replace hN : C.N = 39 := hN
 simp only [bc, V]
 refine ah fun _ k1 => ?_
 refine am hP hN rfl ?_
 iterate 4 (refine aj rfl fun _ k0 => ?_; simp only [zO, zT, acs, reduceCtorEq, aa, V, ad, ag, af, ae, Mly.av, bG, dJ]; (repeat refine an ?_); (try refine .inl ?_); apply k0; clear k0; simp only [zP, V])
 refine ao ?_
 apply k1; clear k1; refine kp [0, 1, 2, 3, 4] ?_
 refine ah fun _ k2 => ?_
 refine ah fun _ k3 => ?_
 refine am hP hN rfl ?_
 (refine aj rfl fun _ k0 => ?_; simp only [zO, zT, acs, reduceCtorEq, aa, V, ad, ag, af, ae, Mly.av, bG, dJ]; (repeat refine an ?_); (try refine .inl ?_); apply k0; clear k0; simp only [zP, V])
 refine aj rfl fun _ k0 => ?_
 refine aK (h := aC (si m)) rfl rfl (by first | exact rfl | (simp only [ev, zP, aa, V]; exact rfl)) (by simp only [zV, acs, reduceCtorEq, aa, V, ad, ag, af, ae, Mly.av, bG, dJ]) ?_
 apply k0; clear k0; simp only [zP, V]
 (refine aj rfl fun _ k0 => ?_; simp only [zO, zT, acs, reduceCtorEq, aa, V, ad, ag, af, ae, Mly.av, bG, dJ]; (repeat refine an ?_); (try refine .inl ?_); apply k0; clear k0; simp only [zP, V])
 refine ao ?_
 apply k3; clear k3; refine kp [0, 1, 2, 3, 4, 5] ?_
 refine ah fun _ k4 => ?_
 refine am hP hN rfl ?_
 iterate 2 (refine aj rfl fun _ k0 => ?_; simp only [zO, zT, acs, reduceCtorEq, aa, V, ad, ag, af, ae, Mly.av, bG, dJ]; (repeat refine an ?_); (try refine .inl ?_); apply k0; clear k0; simp only [zP, V])
 refine ao ?_
 apply k4; clear k4; refine kp [0, 1, 2, 3, 4, 5, 11] ?_
 refine cd (fun hc5 => ?_) (fun hc5 => ?_)
 ·(try simp only [zB, reduceCtorEq] at hc5)
  have hE : ¬ dK m = 0 := hc5
  refine ah fun _ k6 => ?_
  refine am hP hN rfl ?_
  iterate 5 (refine aj rfl fun _ k0 => ?_; simp only [zO, zT, acs, reduceCtorEq, aa, V, ad, ag, af, ae, Mly.av, bG, dJ]; (repeat refine an ?_); (try refine .inl ?_); apply k0; clear k0; simp only [zP, V])
  refine ao ?_
  apply k6; clear k6; refine kp [0, 1, 2, 3, 4, 5, 11] ?_
  refine aE ?_
  refine ⟨nr, _, rfl, ?_⟩; simp only [zF, zP, aa, V, Mly.av, bG, dJ]
  first
  | (have hZ : dE m = dK m := if_pos hE
     have hZ0 : ¬ dE m = 0 := by rw [hZ]; exact hE
     rw [(fI hZ0).1, (fI hZ0).2, hZ]; exact bE ⟨dM ⟨bo rfl, trivial⟩, aF (.refl _), aF (.refl _), trivial⟩)
  | (have hZ : dE m = 11 := (if_neg (fun h => h hE)).trans (if_pos hL)
     have hZ0 : ¬ dE m = 0 := by rw [hZ]; decide
     rw [(fI hZ0).1, (fI hZ0).2, hZ]; exact bE ⟨dM ⟨bo rfl, trivial⟩, aF (.refl _), aF (.refl _), trivial⟩)
  | (have hZ : dE m = 0 := (if_neg (fun h => h hE)).trans (if_neg hL)
     rw [(fa hZ).1, (fa hZ).2, hZ]; exact VLE.of_eq rfl)
 (try simp only [zB, reduceCtorEq] at hc5)
 have hE : dK m = 0 := by simpa using hc5
 have hm := eJ (nf hE)
 have hn1 := hm.n1
 have hn2 := hm.n2
 refine ay ?_
 apply k2; clear k2; refine kp [0, 1, 2, 3, 4, 5, 11] ?_
 refine ah fun _ k7 => ?_
 refine am hP hN rfl ?_
 iterate 4 (refine aj rfl fun _ k0 => ?_; simp only [zO, zT, acs, reduceCtorEq, aa, V, ad, ag, af, ae, Mly.av, bG, dJ]; (repeat refine an ?_); (try refine .inl ?_); apply k0; clear k0; simp only [zP, V])
 refine ao ?_
 apply k7; clear k7; refine kp [0, 1, 2, 3, 4, 5, 6, 11] ?_
 refine ah fun _ k8 => ?_
 refine bu hP hN Try.mixed rfl ?_
 iterate 2 (refine aj rfl fun _ k0 => ?_; simp only [zO, zT, acs, reduceCtorEq, aa, V, ad, ag, af, ae, Mly.av, bG, dJ]; (repeat refine an ?_); (try refine .inl ?_); apply k0; clear k0; simp only [zP, V])
 refine aj rfl fun _ k0 => ?_
 refine aK (h := aC (jy m (by omega))) rfl rfl (by first | exact rfl | (simp only [ev, zP, aa, V]; exact rfl)) (by simp only [zV, acs, reduceCtorEq, aa, V, ad, ag, af, ae, Mly.av, bG, dJ]) ?_
 apply k0; clear k0; simp only [zP, V]
 (refine aj rfl fun _ k0 => ?_; simp only [zO, zT, acs, reduceCtorEq, aa, V, ad, ag, af, ae, Mly.av, bG, dJ]; (repeat refine an ?_); (try refine .inl ?_); apply k0; clear k0; simp only [zP, V])
 refine aj rfl fun _ k0 => ?_
 refine aK (h := aC (jy m (by omega))) rfl rfl (by first | exact rfl | (simp only [ev, zP, aa, V]; exact rfl)) (by simp only [zV, acs, reduceCtorEq, aa, V, ad, ag, af, ae, Mly.av, bG, dJ]) ?_
 apply k0; clear k0; simp only [zP, V]
 (refine aj rfl fun _ k0 => ?_; simp only [zO, zT, acs, reduceCtorEq, aa, V, ad, ag, af, ae, Mly.av, bG, dJ]; (repeat refine an ?_); (try refine .inl ?_); apply k0; clear k0; simp only [zP, V])
 refine aj rfl fun _ k0 => ?_
 refine aK (h := zh m hm (rgI m.nx.length) (kQ m) (by rw [di]; omega) (by rw [di]; omega) _ 2 rfl) rfl rfl (by first | exact rfl | (simp only [ev, zP, aa, V]; exact rfl)) (by simp only [zV, acs, reduceCtorEq, aa, V, ad, ag, af, ae, Mly.av, bG, dJ]) ?_
 apply k0; clear k0; simp only [zP, V]
 refine ao ?_
 refine ⟨by kernel_rfl, ?_⟩
 apply k8; clear k8; refine kp [0, 1, 2, 3, 4, 5, 6, 11] ?_
 refine ah fun _ k9 => ?_
 refine ah fun _ k10 => ?_
 refine am hP hN rfl ?_
 iterate 6 (refine aj rfl fun _ k0 => ?_; simp only [zO, zT, acs, reduceCtorEq, aa, V, ad, ag, af, ae, Mly.av, bG, dJ]; (repeat refine an ?_); (try refine .inl ?_); apply k0; clear k0; simp only [zP, V])
 refine ao ?_
 apply k10; clear k10; refine kp [0, 1, 2, 3, 4, 5, 6, 11, 29] ?_
 refine cd (fun hc11 => ?_) (fun hc11 => ?_)
 ·(try simp only [zB, reduceCtorEq] at hc11)
  have hL : 4096 < (dt m).length := by have h9 : (4096 : Int) < ((dt m).length : Int) := hc11; omega
  refine ah fun _ k12 => ?_
  refine am hP hN rfl ?_
  iterate 4 (refine aj rfl fun _ k0 => ?_; simp only [zO, zT, acs, reduceCtorEq, aa, V, ad, ag, af, ae, Mly.av, bG, dJ]; (repeat refine an ?_); (try refine .inl ?_); apply k0; clear k0; simp only [zP, V])
  refine ao ?_
  apply k12; clear k12; refine kp [0, 1, 2, 3, 4, 5, 6, 11, 29] ?_
  refine aE ?_
  refine ⟨nr, _, rfl, ?_⟩; simp only [zF, zP, aa, V, Mly.av, bG, dJ]
  first
  | (have hZ : dE m = dK m := if_pos hE
     have hZ0 : ¬ dE m = 0 := by rw [hZ]; exact hE
     rw [(fI hZ0).1, (fI hZ0).2, hZ]; exact bE ⟨dM ⟨bo rfl, trivial⟩, aF (.refl _), aF (.refl _), trivial⟩)
  | (have hZ : dE m = 11 := (if_neg (fun h => h hE)).trans (if_pos hL)
     have hZ0 : ¬ dE m = 0 := by rw [hZ]; decide
     rw [(fI hZ0).1, (fI hZ0).2, hZ]; exact bE ⟨dM ⟨bo rfl, trivial⟩, aF (.refl _), aF (.refl _), trivial⟩)
  | (have hZ : dE m = 0 := (if_neg (fun h => h hE)).trans (if_neg hL)
     rw [(fa hZ).1, (fa hZ).2, hZ]; exact VLE.of_eq rfl)
 (try simp only [zB, reduceCtorEq] at hc11)
 have hL : ¬ 4096 < (dt m).length := by have h9 : ((dt m).length : Int) ≤ 4096 := hc11; omega
 refine ay ?_
 apply k9; clear k9; refine kp [0, 1, 2, 3, 4, 5, 6, 11, 29] ?_
 refine ah fun _ k13 => ?_
 refine am hP hN rfl ?_
 iterate 7 (refine aj rfl fun _ k0 => ?_; simp only [zO, zT, acs, reduceCtorEq, aa, V, ad, ag, af, ae, Mly.av, bG, dJ]; (repeat refine an ?_); (try refine .inl ?_); apply k0; clear k0; simp only [zP, V])
 refine ao ?_
 apply k13; clear k13; refine kp [0, 1, 2, 3, 4, 5, 6, 7, 11, 29] ?_
 refine ah fun _ k14 => ?_
 refine bu hP hN Try.mixed rfl ?_
 iterate 2 (refine aj rfl fun _ k0 => ?_; simp only [zO, zT, acs, reduceCtorEq, aa, V, ad, ag, af, ae, Mly.av, bG, dJ]; (repeat refine an ?_); (try refine .inl ?_); apply k0; clear k0; simp only [zP, V])
 refine aj rfl fun _ k0 => ?_
 refine aK (h := aC (xr (dt m) (by omega))) rfl rfl (by first | exact rfl | (simp only [ev, zP, aa, V]; exact rfl)) (by simp only [zV, acs, reduceCtorEq, aa, V, ad, ag, af, ae, Mly.av, bG, dJ]) ?_
 apply k0; clear k0; simp only [zP, V]
 iterate 3 (refine aj rfl fun _ k0 => ?_; simp only [zO, zT, acs, reduceCtorEq, aa, V, ad, ag, af, ae, Mly.av, bG, dJ]; (repeat refine an ?_); (try refine .inl ?_); apply k0; clear k0; simp only [zP, V])
 refine ao ?_
 refine ⟨by kernel_rfl, ?_⟩
 apply k14; clear k14; refine kp [0, 1, 2, 3, 4, 5, 6, 7, 11, 29] ?_
 refine aE ?_
 refine ⟨nr, _, rfl, ?_⟩; simp only [zF, zP, aa, V, Mly.av, bG, dJ]
 first
 | (have hZ : dE m = dK m := if_pos hE
    have hZ0 : ¬ dE m = 0 := by rw [hZ]; exact hE
    rw [(fI hZ0).1, (fI hZ0).2, hZ]; exact bE ⟨dM ⟨bo rfl, trivial⟩, aF (.refl _), aF (.refl _), trivial⟩)
 | (have hZ : dE m = 11 := (if_neg (fun h => h hE)).trans (if_pos hL)
    have hZ0 : ¬ dE m = 0 := by rw [hZ]; decide
    rw [(fI hZ0).1, (fI hZ0).2, hZ]; exact bE ⟨dM ⟨bo rfl, trivial⟩, aF (.refl _), aF (.refl _), trivial⟩)
 | (have hZ : dE m = 0 := (if_neg (fun h => h hE)).trans (if_neg hL)
    rw [(fa hZ).1, (fa hZ).2, hZ]; exact VLE.of_eq rfl)
theorem we (xs : List Int) (h0 : 0 < xs.length) (hl : xs.length ≤ 1000000) : cb Try.prog 60 [.one (.list (.int .i64) xs)] (.one (.int .i64 ((aG xs).length : Int))) := by
 refine aT Try.func60 rfl (by kernel_rfl) (Nat.le_of_ble_eq_true rfl) rfl fun C hP hN hB => ?_
 replace hN : C.N = 11 := hN
 simp only [bc, V]
 refine ah fun _ k1 => ?_
 refine am hP hN rfl ?_
 (refine aj rfl fun _ k0 => ?_; simp only [zO, zT, acs, reduceCtorEq, aa, V, ad, ag, af, ae]; (repeat refine an ?_); (try refine .inl ?_); apply k0; clear k0; simp only [zP, V])
 refine ao ?_
 apply k1; clear k1; refine kp [0, 2] ?_
 refine ah fun _ k2 => ?_
 refine am hP hN rfl ?_
 (refine aj rfl fun _ k0 => ?_; simp only [zO, zT, acs, reduceCtorEq, aa, V, ad, ag, af, ae]; (repeat refine an ?_); (try refine .inl ?_); apply k0; clear k0; simp only [zP, V])
 refine aj rfl fun _ k0 => ?_
 refine aK (h := jH (nI xs h0 (by omega))) rfl rfl (by first | exact rfl | (simp only [ev, zP, aa, V]; exact rfl)) (by simp only [zV, acs, reduceCtorEq, aa, V, ad, ag, af, ae]) ?_
 apply k0; clear k0; simp only [zP, V]
 (refine aj rfl fun _ k0 => ?_; simp only [zO, zT, acs, reduceCtorEq, aa, V, ad, ag, af, ae]; (repeat refine an ?_); (try refine .inl ?_); apply k0; clear k0; simp only [zP, V])
 refine ao ?_
 apply k2; clear k2; refine kp [0, 2, 3] ?_
 refine ah fun _ k3 => ?_
 refine am hP hN rfl ?_
 (refine aj rfl fun _ k0 => ?_; simp only [zO, zT, acs, reduceCtorEq, aa, V, ad, ag, af, ae]; (repeat refine an ?_); (try refine .inl ?_); apply k0; clear k0; simp only [zP, V])
 refine aj rfl fun _ k0 => ?_
 refine aK (h := pL (k := 0) (ver := 0) (xs := xs) uf rfl (by omega) (by omega)) rfl rfl (by first | exact rfl | (simp only [ev, zP, aa, V]; exact rfl)) (by simp only [zV, acs, reduceCtorEq, aa, V, ad, ag, af, ae]) ?_
 apply k0; clear k0; simp only [zP, V]
 refine ao ?_
 apply k3; clear k3; refine kp [0, 2, 3] ?_
 refine ah fun _ k4 => ?_
 refine am hP hN rfl ?_
 (refine aj rfl fun _ k0 => ?_; simp only [zO, zT, acs, reduceCtorEq, aa, V, ad, ag, af, ae]; (repeat refine an ?_); (try refine .inl ?_); apply k0; clear k0; simp only [zP, V])
 refine aj rfl fun _ k0 => ?_
 refine aK (h := lp (k := 0) (ver := 0) (xs := i9 xs) nV rfl (by rw [iG]; omega) (by rw [iG]; omega) jt) rfl rfl (by first | exact rfl | (simp only [ev, zP, aa, V]; exact rfl)) (by simp only [zV, acs, reduceCtorEq, aa, V, ad, ag, af, ae]) ?_
 apply k0; clear k0; simp only [zP, V]
 iterate 2 (refine aj rfl fun _ k0 => ?_; simp only [zO, zT, acs, reduceCtorEq, aa, V, ad, ag, af, ae]; (repeat refine an ?_); (try refine .inl ?_); apply k0; clear k0; simp only [zP, V])
 refine ao ?_
 apply k4; clear k4; refine kp [0, 2, 3] ?_
 refine aE ?_
 refine ⟨nr, _, rfl, ?_⟩; simp only [zF, zP, aa, V]
 refine VLE.of_eq ?_
 rfl
theorem Cv (xs ys : List Int) : cb Try.prog 59 [.one (.list (.int .i64) xs), .one (.list (.int .i64) ys)] (.one (.bool (decide (xs = ys)))) := by
 refine aT Try.func59 rfl (by kernel_rfl) (Nat.le_of_ble_eq_true rfl) rfl fun C hP hN hB => ?_
 replace hN : C.N = 26 := hN
 simp only [bc, V]
 refine mL 0 rfl fun hf0 => ?_; simp only [lkp, if_true, if_false, reduceCtorEq, aa, eq_self, Nat.one_ne_zero, Nat.zero_ne_one, sF, qE, qq, Fit, and_true, implies_true, true_and] at hf0
 refine ah fun _ k1 => ?_
 refine am hP hN rfl ?_
 (refine aj rfl fun _ k0 => ?_; simp only [zO, zT, acs, reduceCtorEq, aa, V, ad, ag, af, ae]; (repeat refine an ?_); (try refine .inl ?_); apply k0; clear k0; simp only [zP, V])
 refine ao ?_
 apply k1; clear k1; refine kp [0, 1, 4] ?_
 refine ah fun _ k2 => ?_
 refine ah fun _ k3 => ?_
 refine am hP hN rfl ?_
 iterate 5 (refine aj rfl fun _ k0 => ?_; simp only [zO, zT, acs, reduceCtorEq, aa, V, ad, ag, af, ae]; (repeat refine an ?_); (try refine .inl ?_); apply k0; clear k0; simp only [zP, V])
 refine ao ?_
 apply k3; clear k3; refine kp [0, 1, 4, 10] ?_
 refine cd (fun hc4 => ?_) (fun hc4 => ?_)
 ·(try simp only [zB, reduceCtorEq] at hc4)
  refine ah fun _ k5 => ?_
  refine am hP hN rfl ?_
  (refine aj rfl fun _ k0 => ?_; simp only [zO, zT, acs, reduceCtorEq, aa, V, ad, ag, af, ae]; (repeat refine an ?_); (try refine .inl ?_); apply k0; clear k0; simp only [zP, V])
  refine ao ?_
  apply k5; clear k5; refine kp [0, 1, 4, 10] ?_
  refine aE ?_
  refine ⟨nr, _, rfl, ?_⟩; simp only [zF, zP, aa, V]
  refine VLE.of_eq ?_
  first
  | (refine eG ?_; rintro rfl; first | exact absurd rfl ‹¬ _› | omega)
  | (refine eW ?_; have hk1 : k = xs.length := by omega
     have hk2 : k = ys.length := by omega
     rw [hk1, aO, ← hk1, hk2, aO] at hT; exact hT)
 (try simp only [zB, reduceCtorEq] at hc4)
 refine ay ?_
 apply k2; clear k2; refine kp [0, 1, 4, 10] ?_
 refine ah fun _ k6 => ?_
 refine ah fun _ k7 => ?_
 refine am hP hN rfl ?_
 iterate 3 (refine aj rfl fun _ k0 => ?_; simp only [zO, zT, acs, reduceCtorEq, aa, V, ad, ag, af, ae]; (repeat refine an ?_); (try refine .inl ?_); apply k0; clear k0; simp only [zP, V])
 refine ao ?_
 apply k7; clear k7; refine kp [0, 1, 4, 10, 12, 13] ?_
 refine aD ?_
 refine bn (fun n8 s8 => ∃ (k : Nat), (k ≤ xs.length) ∧ (xs.take k = ys.take k) ∧ n8 = xs.length - k ∧ s8 = { env := [(0, .one (.list (.int .i64) xs)), (1, .one (.list (.int .i64) ys)), (12, .one (.int .i64 (xs.length : Int))), (13, .one (.int .i64 (k : Int)))], L := [] }) ?_ ?_
 ·exact ⟨_, _, aA [0, 1, 12, 13], 0, Nat.zero_le _, rfl, rfl, rfl⟩
 rintro n8 s8 ⟨k, hk, hT, rfl, rfl⟩
 refine ah fun _ k9 => ?_
 refine am hP hN rfl ?_
 (refine aj rfl fun _ k0 => ?_; simp only [zO, zT, acs, reduceCtorEq, aa, V, ad, ag, af, ae]; (repeat refine an ?_); (try refine .inl ?_); apply k0; clear k0; simp only [zP, V])
 refine ao ?_
 apply k9; clear k9; refine kp [0, 1, 12, 13, 14] ?_
 refine ah fun _ k10 => ?_
 refine cd (fun hc11 => ?_) (fun hc11 => ?_)
 ·(try simp only [zB, reduceCtorEq] at hc11)
  refine ay ?_
  apply k10; clear k10; refine kp [0, 1, 12, 13, 14] ?_
  refine ah fun _ k12 => ?_
  refine aD ?_
  refine ah fun _ k13 => ?_
  refine am hP hN rfl ?_
  iterate 2 (refine aj rfl fun _ k0 => ?_; simp only [zO, zT, acs, reduceCtorEq, aa, V, ad, ag, af, ae]; (repeat refine an ?_); (try refine .inl ?_); apply k0; clear k0; simp only [zP, V])
  refine ao ?_
  apply k13; clear k13; refine kp [0, 1, 5, 12, 13, 14] ?_
  refine ah fun _ k14 => ?_
  refine bu hP hN Try.mixed rfl ?_
  iterate 9 (refine aj rfl fun _ k0 => ?_; simp only [zO, zT, acs, reduceCtorEq, aa, V, ad, ag, af, ae]; (repeat refine an ?_); (try refine .inl ?_); apply k0; clear k0; simp only [zP, V])
  refine ao ?_
  refine ⟨by kernel_rfl, ?_⟩
  apply k14; clear k14; refine kp [0, 1, 5, 12, 13, 14, 24] ?_
  refine cd (fun hc15 => ?_) (fun hc15 => ?_)
  ·(try simp only [zB, reduceCtorEq] at hc15)
   refine ah fun _ k16 => ?_
   refine am hP hN rfl ?_
   (refine aj rfl fun _ k0 => ?_; simp only [zO, zT, acs, reduceCtorEq, aa, V, ad, ag, af, ae]; (repeat refine an ?_); (try refine .inl ?_); apply k0; clear k0; simp only [zP, V])
   refine ao ?_
   apply k16; clear k16; refine kp [0, 1, 4, 5, 12, 13, 14, 24] ?_
   refine aE ?_
   refine ⟨nr, _, rfl, ?_⟩; simp only [zF, zP, aa, V]
   refine VLE.of_eq ?_
   first
   | (refine eG ?_; rintro rfl; first | exact absurd rfl ‹¬ _› | omega)
   | (refine eW ?_; have hk1 : k = xs.length := by omega
      have hk2 : k = ys.length := by omega
      rw [hk1, aO, ← hk1, hk2, aO] at hT; exact hT)
  (try simp only [zB, reduceCtorEq] at hc15)
  refine ay ?_
  apply k12; clear k12; refine kp [0, 1, 5, 12, 13, 14, 24] ?_
  refine am hP hN rfl ?_
  iterate 2 (refine aj rfl fun _ k0 => ?_; simp only [zO, zT, acs, reduceCtorEq, aa, V, ad, ag, af, ae]; (repeat refine an ?_); (try refine .inl ?_); apply k0; clear k0; simp only [zP, V])
  refine ao ?_
  refine ⟨_, _, ?_, aA [0, 1, 12, 13], k + 1, by omega, iX (d := 0) hT (by omega) (by omega) ?_, rfl, rfl⟩
  · omega
  · first | assumption | omega
 (try simp only [zB, reduceCtorEq] at hc11)
 refine aZ ?_
 apply k6; clear k6; refine kp [0, 1, 12, 13, 14] ?_
 refine ah fun _ k17 => ?_
 refine am hP hN rfl ?_
 (refine aj rfl fun _ k0 => ?_; simp only [zO, zT, acs, reduceCtorEq, aa, V, ad, ag, af, ae]; (repeat refine an ?_); (try refine .inl ?_); apply k0; clear k0; simp only [zP, V])
 refine ao ?_
 apply k17; clear k17; refine kp [0, 1, 4, 12, 13, 14] ?_
 refine aE ?_
 refine ⟨nr, _, rfl, ?_⟩; simp only [zF, zP, aa, V]
 refine VLE.of_eq ?_
 first
 | (refine eG ?_; rintro rfl; first | exact absurd rfl ‹¬ _› | omega)
 | (refine eW ?_; have hk1 : k = xs.length := by omega
    have hk2 : k = ys.length := by omega
    rw [hk1, aO, ← hk1, hk2, aO] at hT; exact hT)
set_option maxHeartbeats 4000000 in
theorem Af (f : Nat) (m : Mly) (hm : MOK m) (T : List bj) (hT : T.length ≤ 4096) (IH : ∀ (p : Nat) (ini cur : List Int) (x : Value), T.length + 1 ≤ f + p → p ≤ T.length → dm m cur → ini.length = cur.length → 0 < cur.length → cur.length ≤ 1000 → ∀ (L0 : List AO) (m0 : Nat) (hm0 : L0[m0]? = some (.vars 62 [.int .i64 m.inp, .int .i64 m.st, .list (.list (.int .i64)) m.nx, .list (.list (.int .i64)) m.ot, .exact x])), eO Try.prog L0 37 (List.map (mv1 m0) [.one (.ptr 0 0 0 0), .agg [.list ndT T], .one (.int .i64 (p : Int)), .agg [.list (.int .i64) ini, .list (.int .i64) cur]]) { av := .tup [.one (.int .i64 (rtP m T f p ini cur)), .one (.bool (rtF m T f p ini cur).isSome)], upd := [(m0, .vars 62 [.int .i64 m.inp, .int .i64 m.st, .list (.list (.int .i64)) m.nx, .list (.list (.int .i64)) m.ot, .exact x])], fp := [m0] }) (p : Nat) (ini cur : List Int) (x : Value) (hf : T.length + 1 ≤ (f + 1) + p) (hp : p ≤ T.length) (hs : dm m cur) (hil : ini.length = cur.length) (h0 : 0 < cur.length) (hl : cur.length ≤ 1000) (L0 : List AO) (m0 : Nat) (hm0 : L0[m0]? = some (.vars 62 [.int .i64 m.inp, .int .i64 m.st, .list (.list (.int .i64)) m.nx, .list (.list (.int .i64)) m.ot, .exact x])) : eO Try.prog L0 37 (List.map (mv1 m0) [.one (.ptr 0 0 0 0), .agg [.list ndT T], .one (.int .i64 (p : Int)), .agg [.list (.int .i64) ini, .list (.int .i64) cur]]) { av := .tup [.one (.int .i64 (rtP m T (f + 1) p ini cur)), .one (.bool (rtF m T (f + 1) p ini cur).isSome)], upd := [(m0, .vars 62 [.int .i64 m.inp, .int .i64 m.st, .list (.list (.int .i64)) m.nx, .list (.list (.int .i64)) m.ot, .exact x])], fp := [m0] } := by
 refine lP Try.func37 rfl (by kernel_rfl) (Nat.le_of_ble_eq_true rfl) rfl rfl (fun C hP hN hB => ?_) L0 m0 hm0
 replace hN : C.N = 124 := hN
 simp only [bc, V]
 refine ah fun _ k1 => ?_
 refine am hP hN rfl ?_
 iterate 4 (refine aj rfl fun _ k0 => ?_; simp only [zO, zT, acs, reduceCtorEq, aa, V, ad, ag, af, ae, ai, az, aH, aQ, aP]; (repeat refine an ?_); (try refine .inl ?_); apply k0; clear k0; simp only [zP, V])
 refine ao ?_
 apply k1; clear k1; refine kp [0, 1, 2, 3, 5, 7, 8, 9] ?_
 refine ah fun _ k2 => ?_
 refine ah fun _ k3 => ?_
 refine bu hP hN Try.mixed rfl ?_
 iterate 6 (refine aj rfl fun _ k0 => ?_; simp only [zO, zT, acs, reduceCtorEq, aa, V, ad, ag, af, ae, ai, az, aH, aQ, aP]; (repeat refine an ?_); (try refine .inl ?_); apply k0; clear k0; simp only [zP, V])
 refine' aR (want := false) 10 rfl (m := 23) (by simp only [zP, aa, V]; exact rfl) (by kernel_rfl) rfl rfl rfl rfl rfl (fun hg4 => ?a4) ?b4 ?c4
 case a4 =>
  have hq4 := hg4; (try simp only [zB, reduceCtorEq] at hg4); simp only [zE]
  iterate 8 (refine bp rfl fun _ k0 => ?_; simp only [zO, zT, acs, reduceCtorEq, aa, V, ad, ag, af, ae, ai, az, aH, aQ, aP]; (repeat refine an ?_); (try refine .inl ?_); apply k0; clear k0; simp only [zP, V])
  refine bp rfl fun _ k0 => ?_
  refine aK (h := aC (Cv (T.getD p nd0).1 ini)) rfl rfl (by first | exact rfl | (simp only [ev, zP, aa, V]; exact rfl)) (by simp only [zV, acs, reduceCtorEq, aa, V, ad, ag, af, ae, ai, az, aH, aQ, aP]) ?_
  apply k0; clear k0; simp only [zP, V]
  (refine bp rfl fun _ k0 => ?_; simp only [zO, zT, acs, reduceCtorEq, aa, V, ad, ag, af, ae, ai, az, aH, aQ, aP]; (repeat refine an ?_); (try refine .inl ?_); apply k0; clear k0; simp only [zP, V])
  (refine aj rfl fun _ k0 => ?_; simp only [zO, zT, acs, reduceCtorEq, aa, V, ad, ag, af, ae, ai, az, aH, aQ, aP]; (repeat refine an ?_); (try refine .inl ?_); apply k0; clear k0; simp only [zP, V])
  refine ao ?_
  refine ⟨by simp only [zP, aa, V]; exact rfl, rfl, ?_, rfl⟩; (repeat refine aS rfl ?_); exact bB (by exact rfl) hq4
 case b4 => exact cD
 simp only [bh, aY]
 (refine aj rfl fun _ k0 => ?_; simp only [zO, zT, acs, reduceCtorEq, aa, V, ad, ag, af, ae, ai, az, aH, aQ, aP]; (repeat refine an ?_); (try refine .inl ?_); apply k0; clear k0; simp only [zP, V])
 refine' aR (want := false) 7 rfl (m := 35) (by simp only [zP, aa, V]; exact rfl) (by kernel_rfl) rfl rfl rfl rfl rfl (fun hg5 => ?a5) ?b5 ?c5
 case a5 =>
  have hq5 := hg5; (try simp only [zB, reduceCtorEq] at hg5); simp only [zE]
  iterate 2 (refine bp rfl fun _ k0 => ?_; simp only [zO, zT, acs, reduceCtorEq, aa, V, ad, ag, af, ae, ai, az, aH, aQ, aP]; (repeat refine an ?_); (try refine .inl ?_); apply k0; clear k0; simp only [zP, V])
  refine bp rfl fun _ k0 => ?_
  refine aK (h := aC (we cur h0 (by omega))) rfl rfl (by first | exact rfl | (simp only [ev, zP, aa, V]; exact rfl)) (by simp only [zV, acs, reduceCtorEq, aa, V, ad, ag, af, ae, ai, az, aH, aQ, aP]) ?_
  apply k0; clear k0; simp only [zP, V]
  iterate 4 (refine bp rfl fun _ k0 => ?_; simp only [zO, zT, acs, reduceCtorEq, aa, V, ad, ag, af, ae, ai, az, aH, aQ, aP]; (repeat refine an ?_); (try refine .inl ?_); apply k0; clear k0; simp only [zP, V])
  (refine aj rfl fun _ k0 => ?_; simp only [zO, zT, acs, reduceCtorEq, aa, V, ad, ag, af, ae, ai, az, aH, aQ, aP]; (repeat refine an ?_); (try refine .inl ?_); apply k0; clear k0; simp only [zP, V])
  refine ao ?_
  refine ⟨by simp only [zP, aa, V]; exact rfl, rfl, ?_, rfl⟩; (repeat refine aS rfl ?_); exact bB (by exact rfl) hq5
 case b5 => exact cD
 simp only [bh, aY]
 refine ao ?_
 refine ⟨by kernel_rfl, ?_⟩
 apply k3; clear k3; refine kp [0, 1, 2, 3, 5, 7, 8, 9, 43] ?_
 refine cd (fun hc6 => ?_) (fun hc6 => ?_)
 ·(try simp only [zB, reduceCtorEq] at hc6)
  have hno : ¬ (p < T.length ∧ (T.getD p nd0).1 = ini ∧ cur.Nodup) := by
    rintro ⟨h1, h2, h3⟩
    have h4 := og.2 h3
    rcases hc6 with (h9 | h9) | h9
    · omega
    · exact h9 h2
    · omega
  have hNN := oX (m := m) (f := f) hno
  have hMM : ¬ ((p < T.length ∧ (T.getD p nd0).1 = ini ∧ cur.Nodup) ∧ (T.getD p nd0).2.1 = -1) := fun h => hno h.1
  refine ah fun _ k7 => ?_
  refine am hP hN rfl ?_
  iterate 2 (refine aj rfl fun _ k0 => ?_; simp only [zO, zT, acs, reduceCtorEq, aa, V, ad, ag, af, ae, ai, az, aH, aQ, aP]; (repeat refine an ?_); (try refine .inl ?_); apply k0; clear k0; simp only [zP, V])
  refine ao ?_
  apply k7; clear k7; refine kp [0, 1, 2, 3, 5, 7, 8, 9, 43] ?_
  refine aE ?_
  refine ⟨by first | exact .inl rfl | exact .inr rfl, _, rfl, _, _, rfl, ?_, ?_⟩ <;> simp only [fzV, fz1, fzC, aJ, bz, zP, aa, V, ai, az, aH, aQ, aP]
  all_goals first
  | (rw [jF hNN hMM, hNN]; rfl)
  | (rw [dz hSS, hSS]; rfl)
  | (by_cases hz : (T.getD p nd0).2.2.1.length = 0
     · have hSS := (dH (m := m) (f := f) hyes hx1).trans (if_pos hz)
       rw [dz hSS, hSS]
       show AV.tup [.one (.int .i64 ((p : Int) + 1)), .one (.bool (decide (((T.getD p nd0).2.2.1.length : Int) = 0)))] = _
       rw [decide_eq_true (by omega)]; rfl
     · have hNN := (dH (m := m) (f := f) hyes hx1).trans (if_neg hz)
       rw [gN hNN ⟨hyes, hx1⟩, hNN]
       show AV.tup [.one (.int .i64 ((p : Int) + 1)), .one (.bool (decide (((T.getD p nd0).2.2.1.length : Int) = 0)))] = _
       rw [decide_eq_false (by omega)]; rfl)
 (try simp only [zB, reduceCtorEq] at hc6)
 have hyes : p < T.length ∧ (T.getD p nd0).1 = ini ∧ cur.Nodup := ⟨by omega, hc6.1.2, og.1 (by omega)⟩
 refine ay ?_
 apply k2; clear k2; refine kp [0, 1, 2, 3, 5, 7, 8, 9, 43] ?_
 refine ah fun _ k8 => ?_
 refine am hP hN rfl ?_
 iterate 7 (refine aj rfl fun _ k0 => ?_; simp only [zO, zT, acs, reduceCtorEq, aa, V, ad, ag, af, ae, ai, az, aH, aQ, aP]; (repeat refine an ?_); (try refine .inl ?_); apply k0; clear k0; simp only [zP, V])
 refine ao ?_
 apply k8; clear k8; refine kp [0, 1, 2, 3, 5, 7, 8, 9, 10, 43] ?_
 refine ah fun _ k9 => ?_
 refine ah fun _ k10 => ?_
 refine am hP hN rfl ?_
 iterate 3 (refine aj rfl fun _ k0 => ?_; simp only [zO, zT, acs, reduceCtorEq, aa, V, ad, ag, af, ae, ai, az, aH, aQ, aP]; (repeat refine an ?_); (try refine .inl ?_); apply k0; clear k0; simp only [zP, V])
 refine ao ?_
 apply k10; clear k10; refine kp [0, 1, 2, 3, 5, 7, 8, 9, 10, 43, 51] ?_
 refine cd (fun hc11 => ?_) (fun hc11 => ?_)
 ·(try simp only [zB, reduceCtorEq] at hc11)
  have hx1 : (T.getD p nd0).2.1 = -1 := hc11
  refine ah fun _ k12 => ?_
  refine bu hP hN Try.mixed rfl ?_
  iterate 8 (refine aj rfl fun _ k0 => ?_; simp only [zO, zT, acs, reduceCtorEq, aa, V, ad, ag, af, ae, ai, az, aH, aQ, aP]; (repeat refine an ?_); (try refine .inl ?_); apply k0; clear k0; simp only [zP, V])
  refine ao ?_
  refine ⟨by kernel_rfl, ?_⟩
  apply k12; clear k12; refine kp [0, 1, 2, 3, 5, 7, 8, 9, 10, 43, 51] ?_
  refine aE ?_
  refine ⟨by first | exact .inl rfl | exact .inr rfl, _, rfl, _, _, rfl, ?_, ?_⟩ <;> simp only [fzV, fz1, fzC, aJ, bz, zP, aa, V, ai, az, aH, aQ, aP]
  all_goals first
  | (rw [jF hNN hMM, hNN]; rfl)
  | (rw [dz hSS, hSS]; rfl)
  | (by_cases hz : (T.getD p nd0).2.2.1.length = 0
     · have hSS := (dH (m := m) (f := f) hyes hx1).trans (if_pos hz)
       rw [dz hSS, hSS]
       show AV.tup [.one (.int .i64 ((p : Int) + 1)), .one (.bool (decide (((T.getD p nd0).2.2.1.length : Int) = 0)))] = _
       rw [decide_eq_true (by omega)]; rfl
     · have hNN := (dH (m := m) (f := f) hyes hx1).trans (if_neg hz)
       rw [gN hNN ⟨hyes, hx1⟩, hNN]
       show AV.tup [.one (.int .i64 ((p : Int) + 1)), .one (.bool (decide (((T.getD p nd0).2.2.1.length : Int) = 0)))] = _
       rw [decide_eq_false (by omega)]; rfl)
 (try simp only [zB, reduceCtorEq] at hc11)
 have hx1 : ¬ (T.getD p nd0).2.1 = -1 := hc11
 have hMM : ¬ ((p < T.length ∧ (T.getD p nd0).1 = ini ∧ cur.Nodup) ∧ (T.getD p nd0).2.1 = -1) := fun h => hx1 h.2
 refine ay ?_
 apply k9; clear k9; refine kp [0, 1, 2, 3, 5, 7, 8, 9, 10, 43, 51] ?_
 refine ah fun _ k13 => ?_
 refine ah fun _ k14 => ?_
 refine bu hP hN Try.mixed rfl ?_
 iterate 4 (refine aj rfl fun _ k0 => ?_; simp only [zO, zT, acs, reduceCtorEq, aa, V, ad, ag, af, ae, ai, az, aH, aQ, aP]; (repeat refine an ?_); (try refine .inl ?_); apply k0; clear k0; simp only [zP, V])
 refine' aR (want := false) 8 rfl (m := 61) (by simp only [zP, aa, V]; exact rfl) (by kernel_rfl) rfl rfl rfl rfl rfl (fun hg15 => ?a15) ?b15 ?c15
 case a15 =>
  have hq15 := hg15; (try simp only [zB, reduceCtorEq] at hg15); simp only [zE]
  iterate 8 (refine bp rfl fun _ k0 => ?_; simp only [zO, zT, acs, reduceCtorEq, aa, V, ad, ag, af, ae, ai, az, aH, aQ, aP]; (repeat refine an ?_); (try refine .inl ?_); apply k0; clear k0; simp only [zP, V])
  (refine aj rfl fun _ k0 => ?_; simp only [zO, zT, acs, reduceCtorEq, aa, V, ad, ag, af, ae, ai, az, aH, aQ, aP]; (repeat refine an ?_); (try refine .inl ?_); apply k0; clear k0; simp only [zP, V])
  refine ao ?_
  refine ⟨by simp only [zP, aa, V]; exact rfl, rfl, ?_, rfl⟩; (repeat refine aS rfl ?_); exact bB (by exact rfl) hq15
 case b15 => exact cD
 simp only [bh, aY]
 refine ao ?_
 refine ⟨by kernel_rfl, ?_⟩
 apply k14; clear k14; refine kp [0, 1, 2, 3, 5, 7, 8, 9, 10, 43, 51, 70] ?_
 refine cd (fun hc16 => ?_) (fun hc16 => ?_)
 ·(try simp only [zB, reduceCtorEq] at hc16)
  have hxb : ¬ (0 ≤ (T.getD p nd0).2.1 ∧ (T.getD p nd0).2.1 < m.inp ∧ (aG (ouL m cur (T.getD p nd0).2.1)).length = (T.getD p nd0).2.2.1.length) := by
    have h8 : (T.getD p nd0).2.1 < 0 ∨ m.inp ≤ (T.getD p nd0).2.1 := hc16
    omega
  have hNN := pQ (f := f) (p := p) (ini := ini) hx1 hxb
  refine ah fun _ k17 => ?_
  refine am hP hN rfl ?_
  iterate 2 (refine aj rfl fun _ k0 => ?_; simp only [zO, zT, acs, reduceCtorEq, aa, V, ad, ag, af, ae, ai, az, aH, aQ, aP]; (repeat refine an ?_); (try refine .inl ?_); apply k0; clear k0; simp only [zP, V])
  refine ao ?_
  apply k17; clear k17; refine kp [0, 1, 2, 3, 5, 7, 8, 9, 10, 43, 51, 70] ?_
  refine aE ?_
  refine ⟨by first | exact .inl rfl | exact .inr rfl, _, rfl, _, _, rfl, ?_, ?_⟩ <;> simp only [fzV, fz1, fzC, aJ, bz, zP, aa, V, ai, az, aH, aQ, aP]
  all_goals first
  | (rw [jF hNN hMM, hNN]; rfl)
  | (rw [dz hSS, hSS]; rfl)
  | (by_cases hz : (T.getD p nd0).2.2.1.length = 0
     · have hSS := (dH (m := m) (f := f) hyes hx1).trans (if_pos hz)
       rw [dz hSS, hSS]
       show AV.tup [.one (.int .i64 ((p : Int) + 1)), .one (.bool (decide (((T.getD p nd0).2.2.1.length : Int) = 0)))] = _
       rw [decide_eq_true (by omega)]; rfl
     · have hNN := (dH (m := m) (f := f) hyes hx1).trans (if_neg hz)
       rw [gN hNN ⟨hyes, hx1⟩, hNN]
       show AV.tup [.one (.int .i64 ((p : Int) + 1)), .one (.bool (decide (((T.getD p nd0).2.2.1.length : Int) = 0)))] = _
       rw [decide_eq_false (by omega)]; rfl)
 (try simp only [zB, reduceCtorEq] at hc16)
 have hxa : 0 ≤ (T.getD p nd0).2.1 ∧ (T.getD p nd0).2.1 < m.inp := hc16
 refine ay ?_
 apply k13; clear k13; refine kp [0, 1, 2, 3, 5, 7, 8, 9, 10, 43, 51, 70] ?_
 refine ah fun _ k18 => ?_
 refine am hP hN rfl ?_
 iterate 4 (refine aj rfl fun _ k0 => ?_; simp only [zO, zT, acs, reduceCtorEq, aa, V, ad, ag, af, ae, ai, az, aH, aQ, aP]; (repeat refine an ?_); (try refine .inl ?_); apply k0; clear k0; simp only [zP, V])
 refine aj rfl fun _ k0 => ?_
 refine aK (h := p7 m x ini cur (T.getD p nd0).2.1 hm hs hxa h0 hl hil _ 0 rfl) rfl rfl (by first | exact rfl | (simp only [ev, zP, aa, V]; exact rfl)) (by simp only [zV, acs, reduceCtorEq, aa, V, ad, ag, af, ae, ai, az, aH, aQ, aP]) ?_
 apply k0; clear k0; simp only [zP, V]
 iterate 5 (refine aj rfl fun _ k0 => ?_; simp only [zO, zT, acs, reduceCtorEq, aa, V, ad, ag, af, ae, ai, az, aH, aQ, aP]; (repeat refine an ?_); (try refine .inl ?_); apply k0; clear k0; simp only [zP, V])
 refine ao ?_
 apply k18; clear k18; refine kp [0, 1, 2, 3, 5, 7, 8, 9, 10, 11, 12, 43, 51, 70] ?_
 refine ah fun _ k19 => ?_
 refine ah fun _ k20 => ?_
 refine am hP hN rfl ?_
 iterate 6 (refine aj rfl fun _ k0 => ?_; simp only [zO, zT, acs, reduceCtorEq, aa, V, ad, ag, af, ae, ai, az, aH, aQ, aP]; (repeat refine an ?_); (try refine .inl ?_); apply k0; clear k0; simp only [zP, V])
 refine ao ?_
 apply k20; clear k20; refine kp [0, 1, 2, 3, 5, 7, 8, 9, 10, 11, 12, 43, 51, 70, 84] ?_
 refine cd (fun hc21 => ?_) (fun hc21 => ?_)
 ·(try simp only [zB, reduceCtorEq] at hc21)
  have hxb : ¬ (0 ≤ (T.getD p nd0).2.1 ∧ (T.getD p nd0).2.1 < m.inp ∧ (aG (ouL m cur (T.getD p nd0).2.1)).length = (T.getD p nd0).2.2.1.length) := by
    have h8 : ¬ (((aG (ouL m cur (T.getD p nd0).2.1)).length : Int) = ((T.getD p nd0).2.2.1.length : Int)) := hc21
    omega
  have hNN := pQ (f := f) (p := p) (ini := ini) hx1 hxb
  refine ah fun _ k22 => ?_
  refine am hP hN rfl ?_
  iterate 2 (refine aj rfl fun _ k0 => ?_; simp only [zO, zT, acs, reduceCtorEq, aa, V, ad, ag, af, ae, ai, az, aH, aQ, aP]; (repeat refine an ?_); (try refine .inl ?_); apply k0; clear k0; simp only [zP, V])
  refine ao ?_
  apply k22; clear k22; refine kp [0, 1, 2, 3, 5, 7, 8, 9, 10, 11, 12, 43, 51, 70, 84] ?_
  refine aE ?_
  refine ⟨by first | exact .inl rfl | exact .inr rfl, _, rfl, _, _, rfl, ?_, ?_⟩ <;> simp only [fzV, fz1, fzC, aJ, bz, zP, aa, V, ai, az, aH, aQ, aP]
  all_goals first
  | (rw [jF hNN hMM, hNN]; rfl)
  | (rw [dz hSS, hSS]; rfl)
  | (by_cases hz : (T.getD p nd0).2.2.1.length = 0
     · have hSS := (dH (m := m) (f := f) hyes hx1).trans (if_pos hz)
       rw [dz hSS, hSS]
       show AV.tup [.one (.int .i64 ((p : Int) + 1)), .one (.bool (decide (((T.getD p nd0).2.2.1.length : Int) = 0)))] = _
       rw [decide_eq_true (by omega)]; rfl
     · have hNN := (dH (m := m) (f := f) hyes hx1).trans (if_neg hz)
       rw [gN hNN ⟨hyes, hx1⟩, hNN]
       show AV.tup [.one (.int .i64 ((p : Int) + 1)), .one (.bool (decide (((T.getD p nd0).2.2.1.length : Int) = 0)))] = _
       rw [decide_eq_false (by omega)]; rfl)
 (try simp only [zB, reduceCtorEq] at hc21)
 have hxl : (aG (ouL m cur (T.getD p nd0).2.1)).length = (T.getD p nd0).2.2.1.length := by
   have h8 : ((aG (ouL m cur (T.getD p nd0).2.1)).length : Int) = ((T.getD p nd0).2.2.1.length : Int) := hc21
   omega
 have hkl := iq (ouL m cur (T.getD p nd0).2.1)
 have hol : (ouL m cur (T.getD p nd0).2.1).length = cur.length := aw ..
 have hrf := nz (f := f) hyes hx1 ⟨hxa.1, hxa.2, hxl⟩
 refine ay ?_
 apply k19; clear k19; refine kp [0, 1, 2, 3, 5, 7, 8, 9, 10, 11, 12, 43, 51, 70, 84] ?_
 refine ah fun _ k23 => ?_
 refine am hP hN rfl ?_
 iterate 3 (refine aj rfl fun _ k0 => ?_; simp only [zO, zT, acs, reduceCtorEq, aa, V, ad, ag, af, ae, ai, az, aH, aQ, aP]; (repeat refine an ?_); (try refine .inl ?_); apply k0; clear k0; simp only [zP, V])
 refine ao ?_
 apply k23; clear k23; refine kp [0, 1, 2, 3, 5, 7, 8, 9, 10, 11, 12, 13, 43, 51, 70, 84] ?_
 refine ah fun _ k24 => ?_
 refine ah fun _ k25 => ?_
 refine am hP hN rfl ?_
 iterate 4 (refine aj rfl fun _ k0 => ?_; simp only [zO, zT, acs, reduceCtorEq, aa, V, ad, ag, af, ae, ai, az, aH, aQ, aP]; (repeat refine an ?_); (try refine .inl ?_); apply k0; clear k0; simp only [zP, V])
 refine ao ?_
 apply k25; clear k25; refine kp [0, 1, 2, 3, 5, 7, 8, 9, 10, 11, 12, 13, 43, 51, 70, 84, 88, 89, 90] ?_
 refine aD ?_
 refine bn (fun n26 s26 => ∃ (i e : Nat), (i ≤ (T.getD p nd0).2.2.1.length) ∧ ((List.range i).foldl (fD m (rtF m T f) ini cur (T.getD p nd0)) (some (p + 1)) = some e) ∧ (p + 1 ≤ e ∧ e ≤ T.length) ∧ n26 = (T.getD p nd0).2.2.1.length - i ∧ s26 = { env := [(0, .one (.ptr 0 0 0 0)), (5, .one (.ptr 1 0 0 0)), (8, .one (.int .i64 0)), (9, .one (.bool false)), (11, .one (.list (.int .i64) (aG (ouL m cur (T.getD p nd0).2.1)))), (12, .one (.list (.pair (.list (.int .i64)) (.pair (.list (.int .i64)) .unit)) (mh m ini cur (T.getD p nd0).2.1 (aG (ouL m cur (T.getD p nd0).2.1))))), (13, .one (.int .i64 (e : Int))), (88, .one (.list kdT (T.getD p nd0).2.2.1)), (89, .one (.int .i64 ((T.getD p nd0).2.2.1.length : Int))), (90, .one (.int .i64 (i : Int)))], L := [.vars 62 [.int .i64 m.inp, .int .i64 m.st, .list (.list (.int .i64)) m.nx, .list (.list (.int .i64)) m.ot, .exact x], .vars 29 [.list ndT T], .vars 66 [.list (.int .i64) ini, .list (.int .i64) cur], .vars 52 [.list (.int .i64) (T.getD p nd0).1, .int .i64 (T.getD p nd0).2.1, .list kdT (T.getD p nd0).2.2.1]] }) ?_ ?_
 ·exact ⟨_, _, aA [0, 5, 8, 9, 11, 12, 13, 88, 89, 90], 0, p + 1, Nat.zero_le _, rfl, ⟨by omega, by omega⟩, rfl, rfl⟩
 rintro n26 s26 ⟨i, e, hi, hD, he, rfl, rfl⟩
 refine ah fun _ k27 => ?_
 refine am hP hN rfl ?_
 (refine aj rfl fun _ k0 => ?_; simp only [zO, zT, acs, reduceCtorEq, aa, V, ad, ag, af, ae, ai, az, aH, aQ, aP]; (repeat refine an ?_); (try refine .inl ?_); apply k0; clear k0; simp only [zP, V])
 refine ao ?_
 apply k27; clear k27; refine kp [0, 5, 8, 9, 11, 12, 13, 88, 89, 90, 91] ?_
 refine ah fun _ k28 => ?_
 refine cd (fun hc29 => ?_) (fun hc29 => ?_)
 ·(try simp only [zB, reduceCtorEq] at hc29)
  have hil9 : (i : Int) < ((T.getD p nd0).2.2.1.length : Int) := hc29
  refine ay ?_
  apply k28; clear k28; refine kp [0, 5, 8, 9, 11, 12, 13, 88, 89, 90, 91] ?_
  refine ah fun _ k30 => ?_
  refine aD ?_
  refine ah fun _ k31 => ?_
  refine am hP hN rfl ?_
  iterate 6 (refine aj rfl fun _ k0 => ?_; simp only [zO, zT, acs, reduceCtorEq, aa, V, ad, ag, af, ae, ai, az, aH, aQ, aP]; (repeat refine an ?_); (try refine .inl ?_); apply k0; clear k0; simp only [zP, V])
  refine ao ?_
  apply k31; clear k31; refine kp [0, 5, 8, 9, 11, 12, 13, 14, 15, 88, 89, 90, 91] ?_
  refine ah fun _ k32 => ?_
  refine ah fun _ k33 => ?_
  refine bu hP hN Try.mixed rfl ?_
  iterate 8 (refine aj rfl fun _ k0 => ?_; simp only [zO, zT, acs, reduceCtorEq, aa, V, ad, ag, af, ae, ai, az, aH, aQ, aP]; (repeat refine an ?_); (try refine .inl ?_); apply k0; clear k0; simp only [zP, V])
  refine' aR (want := false) 4 rfl (m := 102) (by simp only [zP, aa, V]; exact rfl) (by kernel_rfl) rfl rfl rfl rfl rfl (fun hg34 => ?a34) ?b34 ?c34
  case a34 =>
   have hq34 := hg34; (try simp only [zB, reduceCtorEq] at hg34); simp only [zE]
   iterate 4 (refine bp rfl fun _ k0 => ?_; simp only [zO, zT, acs, reduceCtorEq, aa, V, ad, ag, af, ae, ai, az, aH, aQ, aP]; (repeat refine an ?_); (try refine .inl ?_); apply k0; clear k0; simp only [zP, V])
   (refine aj rfl fun _ k0 => ?_; simp only [zO, zT, acs, reduceCtorEq, aa, V, ad, ag, af, ae, ai, az, aH, aQ, aP]; (repeat refine an ?_); (try refine .inl ?_); apply k0; clear k0; simp only [zP, V])
   refine ao ?_
   refine ⟨by simp only [zP, aa, V]; exact rfl, rfl, ?_, rfl⟩; (repeat refine aS rfl ?_); exact bB (by exact rfl) hq34
  case b34 => exact cD
  simp only [bh, aY]
  refine ao ?_
  refine ⟨by kernel_rfl, ?_⟩
  apply k33; clear k33; refine kp [0, 5, 8, 9, 11, 12, 13, 14, 15, 88, 89, 90, 91, 107] ?_
  refine cd (fun hc35 => ?_) (fun hc35 => ?_)
  ·(try simp only [zB, reduceCtorEq] at hc35)
   have hNN : rtF m T (f + 1) p ini cur = none := hrf.trans (rY (by omega) hD (qt (fun h => Or.elim hc35 (fun h9 => h9 h.1) (fun h9 => h9 h.2))))
   refine ah fun _ k36 => ?_
   refine am hP hN rfl ?_
   iterate 2 (refine aj rfl fun _ k0 => ?_; simp only [zO, zT, acs, reduceCtorEq, aa, V, ad, ag, af, ae, ai, az, aH, aQ, aP]; (repeat refine an ?_); (try refine .inl ?_); apply k0; clear k0; simp only [zP, V])
   refine ao ?_
   apply k36; clear k36; refine kp [0, 5, 8, 9, 11, 12, 13, 14, 15, 88, 89, 90, 91, 107] ?_
   refine aE ?_
   refine ⟨by first | exact .inl rfl | exact .inr rfl, _, rfl, _, _, rfl, ?_, ?_⟩ <;> simp only [fzV, fz1, fzC, aJ, bz, zP, aa, V, ai, az, aH, aQ, aP]
   all_goals first
   | (rw [jF hNN hMM, hNN]; rfl)
   | (rw [dz hSS, hSS]; rfl)
   | (by_cases hz : (T.getD p nd0).2.2.1.length = 0
      · have hSS := (dH (m := m) (f := f) hyes hx1).trans (if_pos hz)
        rw [dz hSS, hSS]
        show AV.tup [.one (.int .i64 ((p : Int) + 1)), .one (.bool (decide (((T.getD p nd0).2.2.1.length : Int) = 0)))] = _
        rw [decide_eq_true (by omega)]; rfl
      · have hNN := (dH (m := m) (f := f) hyes hx1).trans (if_neg hz)
        rw [gN hNN ⟨hyes, hx1⟩, hNN]
        show AV.tup [.one (.int .i64 ((p : Int) + 1)), .one (.bool (decide (((T.getD p nd0).2.2.1.length : Int) = 0)))] = _
        rw [decide_eq_false (by omega)]; rfl)
  (try simp only [zB, reduceCtorEq] at hc35)
  have hkk := kL (m := m) (rec := rtF m T f) (ini := ini) (cur := cur) hc35
  refine ay ?_
  apply k32; clear k32; refine kp [0, 5, 8, 9, 11, 12, 13, 14, 15, 88, 89, 90, 91, 107] ?_
  refine ah fun _ k37 => ?_
  have hgi := tU (m := m) (ini := ini) (cur := cur) (a := (T.getD p nd0).2.1) (ks := (aG (ouL m cur (T.getD p nd0).2.1))) (i := i) (by omega)
  have hin : ((aG (ouL m cur (T.getD p nd0).2.1)).getD i 0) ∈ (aG (ouL m cur (T.getD p nd0).2.1)) := br (by omega)
  have hq1 := jA hm (o := ((aG (ouL m cur (T.getD p nd0).2.1)).getD i 0)) hxa hs
  have hq2 := fA m ini cur (T.getD p nd0).2.1 ((aG (ouL m cur (T.getD p nd0).2.1)).getD i 0) cur.length
  have hq3 := mu hin
  have hq4 : (bV m cur (T.getD p nd0).2.1 cur.length ((aG (ouL m cur (T.getD p nd0).2.1)).getD i 0)).length ≤ 1000 := Nat.le_trans mv hl
  refine bu hP hN Try.mixed rfl ?_
  iterate 7 (refine aj rfl fun _ k0 => ?_; simp only [zO, zT, acs, reduceCtorEq, aa, V, ad, ag, af, ae, ai, az, aH, aQ, aP, hgi]; (repeat refine an ?_); (try refine .inl ?_); apply k0; clear k0; simp only [zP, V])
  refine aj rfl fun _ k0 => ?_
  refine aK (h := IH e (cw m ini cur (T.getD p nd0).2.1 cur.length ((aG (ouL m cur (T.getD p nd0).2.1)).getD i 0)) (bV m cur (T.getD p nd0).2.1 cur.length ((aG (ouL m cur (T.getD p nd0).2.1)).getD i 0)) x (by omega) (by omega) hq1 hq2 hq3 hq4 _ 0 rfl) rfl rfl (by first | exact rfl | (simp only [ev, zP, aa, V]; exact rfl)) (by simp only [zV, acs, reduceCtorEq, aa, V, ad, ag, af, ae, ai, az, aH, aQ, aP, hgi]) ?_
  apply k0; clear k0; simp only [zP, V]
  iterate 5 (refine aj rfl fun _ k0 => ?_; simp only [zO, zT, acs, reduceCtorEq, aa, V, ad, ag, af, ae, ai, az, aH, aQ, aP, hgi]; (repeat refine an ?_); (try refine .inl ?_); apply k0; clear k0; simp only [zP, V])
  refine ao ?_
  refine ⟨by kernel_rfl, ?_⟩
  apply k37; clear k37; refine kp [0, 5, 8, 9, 11, 12, 13, 14, 15, 16, 17, 88, 89, 90, 91, 107] ?_
  refine ah fun _ k38 => ?_
  refine ah fun _ k39 => ?_
  refine am hP hN rfl ?_
  iterate 2 (refine aj rfl fun _ k0 => ?_; simp only [zO, zT, acs, reduceCtorEq, aa, V, ad, ag, af, ae, ai, az, aH, aQ, aP]; (repeat refine an ?_); (try refine .inl ?_); apply k0; clear k0; simp only [zP, V])
  refine ao ?_
  apply k39; clear k39; refine kp [0, 5, 8, 9, 11, 12, 13, 14, 15, 16, 17, 88, 89, 90, 91, 107, 120] ?_
  refine cd (fun hc40 => ?_) (fun hc40 => ?_)
  ·(try simp only [zB, reduceCtorEq] at hc40)
   have hno9 : rtF m T f e (cw m ini cur (T.getD p nd0).2.1 cur.length ((aG (ouL m cur (T.getD p nd0).2.1)).getD i 0)) (bV m cur (T.getD p nd0).2.1 cur.length ((aG (ouL m cur (T.getD p nd0).2.1)).getD i 0)) = none := by
     cases hr : rtF m T f e (cw m ini cur (T.getD p nd0).2.1 cur.length ((aG (ouL m cur (T.getD p nd0).2.1)).getD i 0)) (bV m cur (T.getD p nd0).2.1 cur.length ((aG (ouL m cur (T.getD p nd0).2.1)).getD i 0)) with
     | none => rfl
     | some n => rw [hr] at hc40; cases hc40
   have hNN : rtF m T (f + 1) p ini cur = none := hrf.trans (rY (by omega) hD (hkk.trans hno9))
   refine ah fun _ k41 => ?_
   refine am hP hN rfl ?_
   iterate 2 (refine aj rfl fun _ k0 => ?_; simp only [zO, zT, acs, reduceCtorEq, aa, V, ad, ag, af, ae, ai, az, aH, aQ, aP]; (repeat refine an ?_); (try refine .inl ?_); apply k0; clear k0; simp only [zP, V])
   refine ao ?_
   apply k41; clear k41; refine kp [0, 5, 8, 9, 11, 12, 13, 14, 15, 16, 17, 88, 89, 90, 91, 107, 120] ?_
   refine aE ?_
   refine ⟨by first | exact .inl rfl | exact .inr rfl, _, rfl, _, _, rfl, ?_, ?_⟩ <;> simp only [fzV, fz1, fzC, aJ, bz, zP, aa, V, ai, az, aH, aQ, aP]
   all_goals first
   | (rw [jF hNN hMM, hNN]; rfl)
   | (rw [dz hSS, hSS]; rfl)
   | (by_cases hz : (T.getD p nd0).2.2.1.length = 0
      · have hSS := (dH (m := m) (f := f) hyes hx1).trans (if_pos hz)
        rw [dz hSS, hSS]
        show AV.tup [.one (.int .i64 ((p : Int) + 1)), .one (.bool (decide (((T.getD p nd0).2.2.1.length : Int) = 0)))] = _
        rw [decide_eq_true (by omega)]; rfl
      · have hNN := (dH (m := m) (f := f) hyes hx1).trans (if_neg hz)
        rw [gN hNN ⟨hyes, hx1⟩, hNN]
        show AV.tup [.one (.int .i64 ((p : Int) + 1)), .one (.bool (decide (((T.getD p nd0).2.2.1.length : Int) = 0)))] = _
        rw [decide_eq_false (by omega)]; rfl)
  (try simp only [zB, reduceCtorEq] at hc40)
  obtain ⟨e2, he2⟩ : ∃ e2, rtF m T f e (cw m ini cur (T.getD p nd0).2.1 cur.length ((aG (ouL m cur (T.getD p nd0).2.1)).getD i 0)) (bV m cur (T.getD p nd0).2.1 cur.length ((aG (ouL m cur (T.getD p nd0).2.1)).getD i 0)) = some e2 := Option.isSome_iff_exists.1 hc40
  have he3 := eT he2
  refine ay ?_
  apply k38; clear k38; refine kp [0, 5, 8, 9, 11, 12, 13, 14, 15, 16, 17, 88, 89, 90, 91, 107, 120] ?_
  rw [dz he2]
  refine am hP hN rfl ?_
  iterate 2 (refine aj rfl fun _ k0 => ?_; simp only [zO, zT, acs, reduceCtorEq, aa, V, ad, ag, af, ae, ai, az, aH, aQ, aP]; (repeat refine an ?_); (try refine .inl ?_); apply k0; clear k0; simp only [zP, V])
  refine ao ?_
  apply k30; clear k30; refine kp [0, 5, 8, 9, 11, 12, 13, 14, 15, 16, 17, 88, 89, 90, 91, 107, 120] ?_
  refine dh [0, 5, 8, 9, 11, 12, 13, 88, 89, 90] ?_; simp only [cJ, lkp, zE, reduceCtorEq, aa]
  refine eQ (L1 := [_, _, _, _]) rfl (by rw [hB]; simp) rfl rfl ?_
  refine am hP hN rfl ?_
  iterate 2 (refine aj rfl fun _ k0 => ?_; simp only [zO, zT, acs, reduceCtorEq, aa, V, ad, ag, af, ae, ai, az, aH, aQ, aP]; (repeat refine an ?_); (try refine .inl ?_); apply k0; clear k0; simp only [zP, V])
  refine ao ?_
  refine ⟨_, _, ?_, aA [0, 5, 8, 9, 11, 12, 13, 88, 89, 90], i + 1, e2, by omega, pR hD (hkk.trans he2), ⟨by omega, by omega⟩, rfl, rfl⟩
  omega
 (try simp only [zB, reduceCtorEq] at hc29)
 have hil9 : ((T.getD p nd0).2.2.1.length : Int) ≤ (i : Int) := hc29
 have hie : (T.getD p nd0).2.2.1.length = i := by omega
 have hSS : rtF m T (f + 1) p ini cur = some e := by rw [hrf, hie]; exact hD
 refine aZ ?_
 apply k24; clear k24; refine kp [0, 5, 8, 9, 11, 12, 13, 88, 89, 90, 91] ?_
 refine ah fun _ k42 => ?_
 refine am hP hN rfl ?_
 iterate 3 (refine aj rfl fun _ k0 => ?_; simp only [zO, zT, acs, reduceCtorEq, aa, V, ad, ag, af, ae, ai, az, aH, aQ, aP]; (repeat refine an ?_); (try refine .inl ?_); apply k0; clear k0; simp only [zP, V])
 refine ao ?_
 apply k42; clear k42; refine kp [0, 5, 8, 9, 11, 12, 13, 88, 89, 90, 91] ?_
 refine aE ?_
 refine ⟨by first | exact .inl rfl | exact .inr rfl, _, rfl, _, _, rfl, ?_, ?_⟩ <;> simp only [fzV, fz1, fzC, aJ, bz, zP, aa, V, ai, az, aH, aQ, aP]
 all_goals first
 | (rw [jF hNN hMM, hNN]; rfl)
 | (rw [dz hSS, hSS]; rfl)
 | (by_cases hz : (T.getD p nd0).2.2.1.length = 0
    · have hSS := (dH (m := m) (f := f) hyes hx1).trans (if_pos hz)
      rw [dz hSS, hSS]
      show AV.tup [.one (.int .i64 ((p : Int) + 1)), .one (.bool (decide (((T.getD p nd0).2.2.1.length : Int) = 0)))] = _
      rw [decide_eq_true (by omega)]; rfl
    · have hNN := (dH (m := m) (f := f) hyes hx1).trans (if_neg hz)
      rw [gN hNN ⟨hyes, hx1⟩, hNN]
      show AV.tup [.one (.int .i64 ((p : Int) + 1)), .one (.bool (decide (((T.getD p nd0).2.2.1.length : Int) = 0)))] = _
      rw [decide_eq_false (by omega)]; rfl)
theorem w5 (m : Mly) (hm : MOK m) (T : List bj) (hT : T.length ≤ 4096) : ∀ (f p : Nat) (ini cur : List Int) (x : Value), T.length + 1 ≤ f + p → p ≤ T.length → dm m cur → ini.length = cur.length → 0 < cur.length → cur.length ≤ 1000 → ∀ (L0 : List AO) (m0 : Nat) (hm0 : L0[m0]? = some (.vars 62 [.int .i64 m.inp, .int .i64 m.st, .list (.list (.int .i64)) m.nx, .list (.list (.int .i64)) m.ot, .exact x])), eO Try.prog L0 37 (List.map (mv1 m0) [.one (.ptr 0 0 0 0), .agg [.list ndT T], .one (.int .i64 (p : Int)), .agg [.list (.int .i64) ini, .list (.int .i64) cur]]) { av := .tup [.one (.int .i64 (rtP m T f p ini cur)), .one (.bool (rtF m T f p ini cur).isSome)], upd := [(m0, .vars 62 [.int .i64 m.inp, .int .i64 m.st, .list (.list (.int .i64)) m.nx, .list (.list (.int .i64)) m.ot, .exact x])], fp := [m0] }
  | 0, p, ini, cur, x, hf, hp, _, _, _, _ => by omega
  | f + 1, p, ini, cur, x, hf, hp, hs, hil, h0, hl => Af f m hm T hT (w5 m hm T hT f) p ini cur x hf hp hs hil h0 hl
end Go.Proofs.Ytoahhklogohehaa
