/- Contracts of functions of this seat, each out of a walk through its code, and plain facts on what they compute. Conditions: those that each theorem names. -/
import Derived.Test.YtoahhklogohehaaW04
set_option linter.unusedSimpArgs false
set_option linter.unusedVariables false
set_option maxRecDepth 100000
namespace Go.Proofs.Ytoahhklogohehaa
open Go Go.AV
open Nat renaming reduceEqDiff → aa, reduceAdd → V, reduceLeDiff → ad, reduceLT → ag, reduceMul → af, reduceSub → ae
open List renaming set_cons_zero → cK, set_cons_succ → cF, getD_cons_zero → au, length_append → ar, map_cons → aJ, cons_append → aN, map_nil → bz, length_cons → ax, nil_append → b6, take_succ_cons → d6, length_nil → aI, length_map → aw, length_replicate → aB, take_length → aO, mem_cons_self → aV, mem_cons_of_mem → aM
open Int renaming toNat_natCast → ai
theorem vY (m : Mly) (T : List bj) : cb Try.prog 16 [m.av, .agg [.list ndT T]] (.one (.int .i64 (fm m T))) := by
 refine aT Try.func16 rfl (by kernel_rfl) (Nat.le_of_ble_eq_true rfl) rfl fun C hP hN hB => ?_
 replace hN : C.N = 41 := hN
 simp only [bc, V]
 refine ah fun _ k1 => ?_
 refine am hP hN rfl ?_
 iterate 3 (refine aj rfl fun _ k0 => ?_; simp only [zO, zT, acs, reduceCtorEq, aa, V, ad, ag, af, ae, Mly.av, bG]; (repeat refine an ?_); (try refine .inl ?_); apply k0; clear k0; simp only [zP, V])
 refine ao ?_
 apply k1; clear k1; refine kp [0, 1, 2, 3, 4] ?_
 refine ah fun _ k2 => ?_
 refine ah fun _ k3 => ?_
 refine am hP hN rfl ?_
 (refine aj rfl fun _ k0 => ?_; simp only [zO, zT, acs, reduceCtorEq, aa, V, ad, ag, af, ae, Mly.av, bG]; (repeat refine an ?_); (try refine .inl ?_); apply k0; clear k0; simp only [zP, V])
 refine aj rfl fun _ k0 => ?_
 refine aK (h := aC (si m)) rfl rfl (by first | exact rfl | (simp only [ev, zP, aa, V]; exact rfl)) (by simp only [zV, acs, reduceCtorEq, aa, V, ad, ag, af, ae, Mly.av, bG]) ?_
 apply k0; clear k0; simp only [zP, V]
 (refine aj rfl fun _ k0 => ?_; simp only [zO, zT, acs, reduceCtorEq, aa, V, ad, ag, af, ae, Mly.av, bG]; (repeat refine an ?_); (try refine .inl ?_); apply k0; clear k0; simp only [zP, V])
 refine ao ?_
 apply k3; clear k3; refine kp [0, 1, 2, 3, 4, 5] ?_
 refine ah fun _ k4 => ?_
 refine am hP hN rfl ?_
 iterate 2 (refine aj rfl fun _ k0 => ?_; simp only [zO, zT, acs, reduceCtorEq, aa, V, ad, ag, af, ae, Mly.av, bG]; (repeat refine an ?_); (try refine .inl ?_); apply k0; clear k0; simp only [zP, V])
 refine ao ?_
 apply k4; clear k4; refine kp [0, 1, 2, 3, 4, 5, 12] ?_
 refine cd (fun hc5 => ?_) (fun hc5 => ?_)
 ·(try simp only [zB, reduceCtorEq] at hc5)
  have hE : ¬ dK m = 0 := hc5
  refine ah fun _ k6 => ?_
  refine am hP hN rfl ?_
  iterate 2 (refine aj rfl fun _ k0 => ?_; simp only [zO, zT, acs, reduceCtorEq, aa, V, ad, ag, af, ae, Mly.av, bG]; (repeat refine an ?_); (try refine .inl ?_); apply k0; clear k0; simp only [zP, V])
  refine ao ?_
  apply k6; clear k6; refine kp [0, 1, 2, 3, 4, 5, 12] ?_
  refine aE ?_
  refine ⟨nr, _, rfl, ?_⟩; simp only [zF, zP, aa, V, Mly.av, bG]
  refine VLE.of_eq ?_
  refine congrArg (fun n => AV.one (AC.int IntKind.i64 n)) ?_
  unfold fm
  symm
  first
  | (rw [if_pos hE]; done)
  | (rw [if_neg (fun h => h hE), if_pos hR]; done)
  | (rw [if_neg (fun h => h hE), if_neg hR]; done)
 (try simp only [zB, reduceCtorEq] at hc5)
 have hE : dK m = 0 := by simpa using hc5
 have hm := eJ (nf hE)
 have hn1 := hm.n1
 have hn2 := hm.n2
 refine ay ?_
 apply k2; clear k2; refine kp [0, 1, 2, 3, 4, 5, 12] ?_
 refine ah fun _ k7 => ?_
 refine ah fun _ k8 => ?_
 refine am hP hN rfl ?_
 iterate 4 (refine aj rfl fun _ k0 => ?_; simp only [zO, zT, acs, reduceCtorEq, aa, V, ad, ag, af, ae, Mly.av, bG]; (repeat refine an ?_); (try refine .inl ?_); apply k0; clear k0; simp only [zP, V])
 refine ao ?_
 apply k8; clear k8; refine kp [0, 1, 2, 3, 4, 5, 12, 17] ?_
 refine cd (fun hc9 => ?_) (fun hc9 => ?_)
 ·(try simp only [zB, reduceCtorEq] at hc9)
  have hR : 4096 < T.length ∨ ¬ rtF m T (T.length + 1) 0 (rgI m.nx.length) (rgI m.nx.length) = some T.length := .inl (by omega)
  refine ah fun _ k10 => ?_
  refine am hP hN rfl ?_
  (refine aj rfl fun _ k0 => ?_; simp only [zO, zT, acs, reduceCtorEq, aa, V, ad, ag, af, ae, Mly.av, bG]; (repeat refine an ?_); (try refine .inl ?_); apply k0; clear k0; simp only [zP, V])
  refine ao ?_
  apply k10; clear k10; refine kp [0, 1, 2, 3, 4, 5, 12, 17] ?_
  refine aE ?_
  refine ⟨nr, _, rfl, ?_⟩; simp only [zF, zP, aa, V, Mly.av, bG]
  refine VLE.of_eq ?_
  refine congrArg (fun n => AV.one (AC.int IntKind.i64 n)) ?_
  unfold fm
  symm
  first
  | (rw [if_pos hE]; done)
  | (rw [if_neg (fun h => h hE), if_pos hR]; done)
  | (rw [if_neg (fun h => h hE), if_neg hR]; done)
 (try simp only [zB, reduceCtorEq] at hc9)
 refine ay ?_
 apply k7; clear k7; refine kp [0, 1, 2, 3, 4, 5, 12, 17] ?_
 refine ah fun _ k11 => ?_
 refine am hP hN rfl ?_
 iterate 4 (refine aj rfl fun _ k0 => ?_; simp only [zO, zT, acs, reduceCtorEq, aa, V, ad, ag, af, ae, Mly.av, bG]; (repeat refine an ?_); (try refine .inl ?_); apply k0; clear k0; simp only [zP, V])
 refine ao ?_
 apply k11; clear k11; refine kp [0, 1, 2, 3, 4, 5, 6, 12, 17] ?_
 refine ah fun _ k12 => ?_
 refine bu hP hN Try.mixed rfl ?_
 iterate 3 (refine aj rfl fun _ k0 => ?_; simp only [zO, zT, acs, reduceCtorEq, aa, V, ad, ag, af, ae, Mly.av, bG]; (repeat refine an ?_); (try refine .inl ?_); apply k0; clear k0; simp only [zP, V])
 refine aj rfl fun _ k0 => ?_
 refine aK (h := aC (jy m (by omega))) rfl rfl (by first | exact rfl | (simp only [ev, zP, aa, V]; exact rfl)) (by simp only [zV, acs, reduceCtorEq, aa, V, ad, ag, af, ae, Mly.av, bG]) ?_
 apply k0; clear k0; simp only [zP, V]
 (refine aj rfl fun _ k0 => ?_; simp only [zO, zT, acs, reduceCtorEq, aa, V, ad, ag, af, ae, Mly.av, bG]; (repeat refine an ?_); (try refine .inl ?_); apply k0; clear k0; simp only [zP, V])
 refine aj rfl fun _ k0 => ?_
 refine aK (h := aC (jy m (by omega))) rfl rfl (by first | exact rfl | (simp only [ev, zP, aa, V]; exact rfl)) (by simp only [zV, acs, reduceCtorEq, aa, V, ad, ag, af, ae, Mly.av, bG]) ?_
 apply k0; clear k0; simp only [zP, V]
 (refine aj rfl fun _ k0 => ?_; simp only [zO, zT, acs, reduceCtorEq, aa, V, ad, ag, af, ae, Mly.av, bG]; (repeat refine an ?_); (try refine .inl ?_); apply k0; clear k0; simp only [zP, V])
 refine aj rfl fun _ k0 => ?_
 refine aK (h := jo (k := 2) (T := 62) (cs := [.int .i64 m.inp, .int .i64 m.st, .list (.list (.int .i64)) m.nx, .list (.list (.int .i64)) m.ot]) (c := .nils) rfl (by simp) (fun x => w5 m hm T (by omega) (T.length + 1) 0 (rgI m.nx.length) (rgI m.nx.length) x (by omega) (by omega) (kQ m) rfl (by rw [di]; omega) (by rw [di]; omega) _ 2 rfl)) rfl rfl (by first | exact rfl | (simp only [ev, zP, aa, V]; exact rfl)) (by simp only [zV, acs, reduceCtorEq, aa, V, ad, ag, af, ae, Mly.av, bG]) ?_
 apply k0; clear k0; simp only [zP, V]
 iterate 5 (refine aj rfl fun _ k0 => ?_; simp only [zO, zT, acs, reduceCtorEq, aa, V, ad, ag, af, ae, Mly.av, bG]; (repeat refine an ?_); (try refine .inl ?_); apply k0; clear k0; simp only [zP, V])
 refine ao ?_
 refine ⟨by kernel_rfl, ?_⟩
 apply k12; clear k12; refine kp [0, 1, 2, 3, 4, 5, 6, 7, 8, 12, 17] ?_
 refine ah fun _ k13 => ?_
 refine ah fun _ k14 => ?_
 refine am hP hN rfl ?_
 iterate 3 (refine aj rfl fun _ k0 => ?_; simp only [zO, zT, acs, reduceCtorEq, aa, V, ad, ag, af, ae, Mly.av, bG]; (repeat refine an ?_); (try refine .inl ?_); apply k0; clear k0; simp only [zP, V])
 refine' aR (want := false) 5 rfl (m := 34) (by simp only [zP, aa, V]; exact rfl) (by kernel_rfl) rfl rfl rfl rfl rfl (fun hg15 => ?a15) ?b15 ?c15
 case a15 =>
  have hq15 := hg15; (try simp only [zB, reduceCtorEq] at hg15); simp only [zE]
  iterate 5 (refine bp rfl fun _ k0 => ?_; simp only [zO, zT, acs, reduceCtorEq, aa, V, ad, ag, af, ae, Mly.av, bG]; (repeat refine an ?_); (try refine .inl ?_); apply k0; clear k0; simp only [zP, V])
  (refine aj rfl fun _ k0 => ?_; simp only [zO, zT, acs, reduceCtorEq, aa, V, ad, ag, af, ae, Mly.av, bG]; (repeat refine an ?_); (try refine .inl ?_); apply k0; clear k0; simp only [zP, V])
  refine ao ?_
  refine ⟨by simp only [zP, aa, V]; exact rfl, rfl, ?_, rfl⟩; (repeat refine aS rfl ?_); exact bB (by exact rfl) hq15
 case b15 => exact cD
 simp only [bh, aY]
 refine ao ?_
 apply k14; clear k14; refine kp [0, 1, 2, 3, 4, 5, 6, 7, 8, 12, 17, 40] ?_
 refine cd (fun hc16 => ?_) (fun hc16 => ?_)
 ·(try simp only [zB, reduceCtorEq] at hc16)
  have hR : 4096 < T.length ∨ ¬ rtF m T (T.length + 1) 0 (rgI m.nx.length) (rgI m.nx.length) = some T.length := .inr (B4 hc16)
  refine ah fun _ k17 => ?_
  refine am hP hN rfl ?_
  (refine aj rfl fun _ k0 => ?_; simp only [zO, zT, acs, reduceCtorEq, aa, V, ad, ag, af, ae, Mly.av, bG]; (repeat refine an ?_); (try refine .inl ?_); apply k0; clear k0; simp only [zP, V])
  refine ao ?_
  apply k17; clear k17; refine kp [0, 1, 2, 3, 4, 5, 6, 7, 8, 12, 17, 40] ?_
  refine aE ?_
  refine ⟨nr, _, rfl, ?_⟩; simp only [zF, zP, aa, V, Mly.av, bG]
  refine VLE.of_eq ?_
  refine congrArg (fun n => AV.one (AC.int IntKind.i64 n)) ?_
  unfold fm
  symm
  first
  | (rw [if_pos hE]; done)
  | (rw [if_neg (fun h => h hE), if_pos hR]; done)
  | (rw [if_neg (fun h => h hE), if_neg hR]; done)
 (try simp only [zB, reduceCtorEq] at hc16)
 have hR : ¬ (4096 < T.length ∨ ¬ rtF m T (T.length + 1) 0 (rgI m.nx.length) (rgI m.nx.length) = some T.length) := fun h => Or.elim h (fun h9 => by omega) (fun h9 => h9 (zX hc16))
 refine ay ?_
 apply k13; clear k13; refine kp [0, 1, 2, 3, 4, 5, 6, 7, 8, 12, 17, 40] ?_
 refine ah fun _ k18 => ?_
 refine am hP hN rfl ?_
 (refine aj rfl fun _ k0 => ?_; simp only [zO, zT, acs, reduceCtorEq, aa, V, ad, ag, af, ae, Mly.av, bG]; (repeat refine an ?_); (try refine .inl ?_); apply k0; clear k0; simp only [zP, V])
 refine ao ?_
 apply k18; clear k18; refine kp [0, 1, 2, 3, 4, 5, 6, 7, 8, 12, 17, 40] ?_
 refine aE ?_
 refine ⟨nr, _, rfl, ?_⟩; simp only [zF, zP, aa, V, Mly.av, bG]
 refine VLE.of_eq ?_
 refine congrArg (fun n => AV.one (AC.int IntKind.i64 n)) ?_
 unfold fm
 symm
 first
 | (rw [if_pos hE]; done)
 | (rw [if_neg (fun h => h hE), if_pos hR]; done)
 | (rw [if_neg (fun h => h hE), if_neg hR]; done)
theorem wL : cb Try.prog 11 [.agg [.int .i64 0, .int .i64 0, .nils, .nils]] (.tup [.agg [.list ndT (iy z12)], .one (.bool (lK z12)), .one (.int .i64 (dE z12))]) :=
  mf (na z12) ⟨uH ⟨.refl _, .refl _, bo rfl, bo rfl, trivial⟩, trivial⟩
theorem zq : cb Try.prog 16 [eE.av, .agg [.nils]] (.one (.int .i64 (fm eE []))) :=
  mf (vY eE []) ⟨VLE.of_eq rfl, uH ⟨bo rfl, trivial⟩, trivial⟩
theorem Bo (T : List bj) (hT : T.length ≤ 4096) (hK : ∀ x ∈ T, x.2.2.1.length ≤ 1000000) : cb Try.prog 20 [.agg [.list ndT T]] (.one (.int .i64 (dpT T))) := by
 refine aT Try.func20 rfl (by kernel_rfl) (Nat.le_of_ble_eq_true rfl) rfl fun C hP hN hB => ?_
 replace hN : C.N = 61 := hN
 simp only [bc, V]
 refine ah fun _ k1 => ?_
 refine am hP hN rfl ?_
 iterate 2 (refine aj rfl fun _ k0 => ?_; simp only [zO, zT, acs, reduceCtorEq, aa, V, ad, ag, af, ae, ai, az, aH, aQ, dG]; (repeat refine an ?_); (try refine .inl ?_); apply k0; clear k0; simp only [zP, V])
 refine ao ?_
 apply k1; clear k1; refine kp [0, 1, 2] ?_
 refine ah fun _ k2 => ?_
 refine am hP hN rfl ?_
 iterate 4 (refine aj rfl fun _ k0 => ?_; simp only [zO, zT, acs, reduceCtorEq, aa, V, ad, ag, af, ae, ai, az, aH, aQ, dG]; (repeat refine an ?_); (try refine .inl ?_); apply k0; clear k0; simp only [zP, V])
 (refine aj rfl fun _ k0 => ?_; simp only [zE, op1, ev, lkp, d7, ca, bZ, df, Nat.mul_one, ci, cT, acs, Ty.dflt, zG, cm, cq, fb, eB, cP, db, eH, Nat.div_one, cM, dg, Ty.size, bC, dite_true, jv, d9, ge, iF, fC, i8, cR, reduceCtorEq, aa, V, ad, ag, af, ae, Try.el27, Try.el41, Try.st29, Try.td27, Try.td29, Try.td3, Try.td41, ai, az, aH, aQ, dG]; (repeat refine an ?_); (try refine .inl ?_); apply k0; clear k0; simp only [zP, V])
 (refine aj rfl fun _ k0 => ?_; simp only [zO, zT, acs, reduceCtorEq, aa, V, ad, ag, af, ae, ai, az, aH, aQ, dG]; (repeat refine an ?_); (try refine .inl ?_); apply k0; clear k0; simp only [zP, V])
 refine ao ?_
 apply k2; clear k2; refine kp [0, 1, 2, 3] ?_
 refine ah fun _ k3 => ?_
 refine ah fun _ k4 => ?_
 refine am hP hN rfl ?_
 iterate 5 (refine aj rfl fun _ k0 => ?_; simp only [zO, zT, acs, reduceCtorEq, aa, V, ad, ag, af, ae, ai, az, aH, aQ, dG]; (repeat refine an ?_); (try refine .inl ?_); apply k0; clear k0; simp only [zP, V])
 refine ao ?_
 apply k4; clear k4; refine kp [0, 1, 2, 3, 4] ?_
 refine aD ?_
 refine bn (fun n5 s5 => ∃ (k : Nat), (k ≤ T.length) ∧ n5 = k + 1 ∧ s5 = { env := [(1, .one (.ptr 0 0 0 0)), (2, .one (.int .i64 0)), (3, .one (.row 1 0)), (4, .one (.int .i64 ((k : Int) - 1)))], L := [.vars 29 [.list ndT T], .row (.int .i64) 3 0 (dpL T k (if k = T.length then 0 else dpA T k))] }) ?_ ?_
 ·refine ⟨_, _, aA [1, 2, 3, 4], T.length, Nat.le_refl _, rfl, ?_⟩
  rw [if_pos rfl, B0]; rfl
 rintro n5 s5 ⟨k, hk, rfl, rfl⟩
 refine ah fun _ k6 => ?_
 refine ah fun _ k7 => ?_
 refine am hP hN rfl ?_
 iterate 2 (refine aj rfl fun _ k0 => ?_; simp only [zO, zT, acs, reduceCtorEq, aa, V, ad, ag, af, ae, ai, az, aH, aQ, dG]; (repeat refine an ?_); (try refine .inl ?_); apply k0; clear k0; simp only [zP, V])
 refine ao ?_
 apply k7; clear k7; refine kp [1, 2, 3, 4, 17] ?_
 refine cd (fun hc8 => ?_) (fun hc8 => ?_)
 ·(try simp only [zB, reduceCtorEq] at hc8)
  refine ay ?_
  apply k6; clear k6; refine kp [1, 2, 3, 4, 17] ?_
  refine ah fun _ k9 => ?_
  refine aD ?_
  refine ah fun _ k10 => ?_
  obtain ⟨p, rfl⟩ : ∃ p, k = p + 1 := ⟨k - 1, by omega⟩
  rw [show (((p + 1 : Nat) : Int) - 1) = (p : Int) by omega, y4 hk]
  have hp : p < T.length := by omega
  have hkm : (T.getD p nd0) ∈ T := by simp [List.getD, hp]
  have hkl := hK _ hkm
  refine am hP hN rfl ?_
  iterate 8 (refine aj rfl fun _ k0 => ?_; simp only [zO, zT, acs, reduceCtorEq, aa, V, ad, ag, af, ae, ai, az, aH, aQ, dG]; (repeat refine an ?_); (try refine .inl ?_); apply k0; clear k0; simp only [zP, V])
  refine ao ?_
  apply k10; clear k10; refine kp [1, 2, 3, 4, 17, 25, 26, 27] ?_
  refine aD ?_
  refine bn (fun n11 s11 => ∃ (i : Nat), (i ≤ (T.getD p nd0).2.2.1.length) ∧ n11 = (T.getD p nd0).2.2.1.length - i ∧ s11 = { env := [(1, .one (.ptr 0 0 0 0)), (2, .one (.int .i64 0)), (3, .one (.row 1 0)), (4, .one (.int .i64 (p : Int))), (17, .one (.bool true)), (25, .one (.list kdT (T.getD p nd0).2.2.1)), (26, .one (.int .i64 ((T.getD p nd0).2.2.1.length : Int))), (27, .one (.int .i64 (i : Int)))], L := [.vars 29 [.list ndT T], .row (.int .i64) 3 0 (dpL T p (((T.getD p nd0).2.2.1.take i).foldl (eD T (dpA T) p) 0))] }) ?_ ?_
  ·refine ⟨_, _, aA [1, 2, 3, 4, 17, 25, 26, 27], 0, Nat.zero_le _, rfl, ?_⟩
   rw [decide_eq_true (show (0 : Int) ≤ (p : Int) by omega)]; rfl
  rintro n11 s11 ⟨i, hi, rfl, rfl⟩
  refine ah fun _ k12 => ?_
  refine am hP hN rfl ?_
  (refine aj rfl fun _ k0 => ?_; simp only [zO, zT, acs, reduceCtorEq, aa, V, ad, ag, af, ae, ai, az, aH, aQ, dG]; (repeat refine an ?_); (try refine .inl ?_); apply k0; clear k0; simp only [zP, V])
  refine ao ?_
  apply k12; clear k12; refine kp [1, 2, 3, 4, 17, 25, 26, 27, 28] ?_
  refine ah fun _ k13 => ?_
  refine cd (fun hc14 => ?_) (fun hc14 => ?_)
  ·(try simp only [zB, reduceCtorEq] at hc14)
   have hil9 : i < (T.getD p nd0).2.2.1.length := by have h9 : (i : Int) < ((T.getD p nd0).2.2.1.length : Int) := hc14; omega
   refine ay ?_
   apply k13; clear k13; refine kp [1, 2, 3, 4, 17, 25, 26, 27, 28] ?_
   refine ah fun _ k15 => ?_
   refine aD ?_
   refine ah fun _ k16 => ?_
   have hil : i < (T.getD p nd0).2.2.1.length := hil9
   refine am hP hN rfl ?_
   iterate 4 (refine aj rfl fun _ k0 => ?_; simp only [zO, zT, acs, reduceCtorEq, aa, V, ad, ag, af, ae, ai, az, aH, aQ, dG]; (repeat refine an ?_); (try refine .inl ?_); apply k0; clear k0; simp only [zP, V])
   refine ao ?_
   apply k16; clear k16; refine kp [1, 2, 3, 4, 6, 17, 25, 26, 27, 28] ?_
   refine ah fun _ k17 => ?_
   have hdt := zI (T := T) (r := dpA T) (p := p) hil
   have hr9 := nR (r := dpA T) hp (fun k hk hl => pX hl) ((T.getD p nd0).2.2.1.take i) 0 ⟨Int.le_refl _, by omega⟩
   refine am hP hN rfl ?_
   iterate 5 (refine aj rfl fun _ k0 => ?_; simp only [zO, zT, acs, reduceCtorEq, aa, V, ad, ag, af, ae, ai, az, aH, aQ, dG]; (repeat refine an ?_); (try refine .inl ?_); apply k0; clear k0; simp only [zP, V])
   refine' aR (want := true) 6 rfl (m := 35) (by simp only [zP, aa, V]; exact rfl) (by kernel_rfl) rfl rfl rfl rfl rfl (fun hg18 => ?a18) ?b18 ?c18
   case a18 =>
    have hq18 := hg18; (try simp only [zB, reduceCtorEq] at hg18); simp only [zE]
    iterate 6 (refine bp rfl fun _ k0 => ?_; simp only [zO, zT, acs, reduceCtorEq, aa, V, ad, ag, af, ae, ai, az, aH, aQ, dG]; (repeat refine an ?_); (try refine .inl ?_); apply k0; clear k0; simp only [zP, V])
    (refine aj rfl fun _ k0 => ?_; simp only [zO, zT, acs, reduceCtorEq, aa, V, ad, ag, af, ae, ai, az, aH, aQ, dG]; (repeat refine an ?_); (try refine .inl ?_); apply k0; clear k0; simp only [zP, V])
    refine ao ?_
    refine ⟨by simp only [zP, aa, V]; exact rfl, rfl, ?_, rfl⟩; (repeat refine aS rfl ?_); exact bB (by exact rfl) hq18
   case b18 => exact cD
   simp only [bh, aY]
   refine ao ?_
   apply k17; clear k17; refine kp [1, 2, 3, 4, 6, 17, 25, 26, 27, 28, 42] ?_
   refine cd (fun hc19 => ?_) (fun hc19 => ?_)
   ·(try simp only [zB, reduceCtorEq] at hc19)
    have hkc := hc19
    have hkr : (p : Int) < ((T.getD p nd0).2.2.1.getD i kd0).2.1 ∧ ((T.getD p nd0).2.2.1.getD i kd0).2.1 < (T.length : Int) := hkc
    have hg0 : (dpL T p (((T.getD p nd0).2.2.1.take i).foldl (eD T (dpA T) p) 0)).getD p 0 = (((T.getD p nd0).2.2.1.take i).foldl (eD T (dpA T) p) 0) := pD (by omega) _
    have hg1 : (dpL T p (((T.getD p nd0).2.2.1.take i).foldl (eD T (dpA T) p) 0)).getD ((T.getD p nd0).2.2.1.getD i kd0).2.1.toNat 0 = dpA T ((T.getD p nd0).2.2.1.getD i kd0).2.1.toNat := B8 (by omega) (by omega) _
    have hr8 := pX (T := T) (p := ((T.getD p nd0).2.2.1.getD i kd0).2.1.toNat) (by omega)
    have hst := zu (T := T) (p := p) (by omega) (((T.getD p nd0).2.2.1.take i).foldl (eD T (dpA T) p) 0) (max (((T.getD p nd0).2.2.1.take i).foldl (eD T (dpA T) p) 0) (1 + dpA T ((T.getD p nd0).2.2.1.getD i kd0).2.1.toNat))
    refine bu hP hN Try.mixed rfl ?_
    iterate 15 (refine aj rfl fun _ k0 => ?_; simp only [zO, zT, acs, reduceCtorEq, aa, V, ad, ag, af, ae, ai, az, aH, aQ, dG, hg0, hg1]; (repeat refine an ?_); (try refine .inl ?_); apply k0; clear k0; simp only [zP, V, hst])
    refine ao ?_
    refine ⟨by kernel_rfl, ?_⟩
    apply k15; clear k15; refine kp [1, 2, 3, 4, 6, 17, 25, 26, 27, 28, 42] ?_
    refine dh [1, 2, 3, 4, 17, 25, 26, 27] ?_; simp only [cJ, lkp, zE, reduceCtorEq, aa]
    refine iJ (L1 := [_, _]) rfl hB rfl rfl ?_
    refine am hP hN rfl ?_
    iterate 2 (refine aj rfl fun _ k0 => ?_; simp only [zO, zT, acs, reduceCtorEq, aa, V, ad, ag, af, ae, ai, az, aH, aQ, dG]; (repeat refine an ?_); (try refine .inl ?_); apply k0; clear k0; simp only [zP, V])
    refine ao ?_
    first
    | (refine ⟨_, _, ?_, aA [1, 2, 3, 4, 17, 25, 26, 27], i + 1, by omega, rfl, ?_⟩
       · omega
       · rw [hdt]; unfold eD; rw [if_pos hkr]; all_goals rfl)
    | (refine ⟨_, _, ?_, aA [1, 2, 3, 4, 17, 25, 26, 27], i + 1, by omega, rfl, ?_⟩
       · omega
       · rw [hdt]; unfold eD; rw [if_neg hkc]; all_goals rfl)
   (try simp only [zB, reduceCtorEq] at hc19)
   have hkc : ¬ ((p : Int) < ((T.getD p nd0).2.2.1.getD i kd0).2.1 ∧ ((T.getD p nd0).2.2.1.getD i kd0).2.1 < (T.length : Int)) := by
     have h8 : ((T.getD p nd0).2.2.1.getD i kd0).2.1 ≤ (p : Int) ∨ (T.length : Int) ≤ ((T.getD p nd0).2.2.1.getD i kd0).2.1 := hc19
     omega
   refine ay ?_
   apply k15; clear k15; refine kp [1, 2, 3, 4, 6, 17, 25, 26, 27, 28, 42] ?_
   refine dh [1, 2, 3, 4, 17, 25, 26, 27] ?_; simp only [cJ, lkp, zE, reduceCtorEq, aa]
   refine iJ (L1 := [_, _]) rfl hB rfl rfl ?_
   refine am hP hN rfl ?_
   iterate 2 (refine aj rfl fun _ k0 => ?_; simp only [zO, zT, acs, reduceCtorEq, aa, V, ad, ag, af, ae, ai, az, aH, aQ, dG]; (repeat refine an ?_); (try refine .inl ?_); apply k0; clear k0; simp only [zP, V])
   refine ao ?_
   first
   | (refine ⟨_, _, ?_, aA [1, 2, 3, 4, 17, 25, 26, 27], i + 1, by omega, rfl, ?_⟩
      · omega
      · rw [hdt]; unfold eD; rw [if_pos hkr]; all_goals rfl)
   | (refine ⟨_, _, ?_, aA [1, 2, 3, 4, 17, 25, 26, 27], i + 1, by omega, rfl, ?_⟩
      · omega
      · rw [hdt]; unfold eD; rw [if_neg hkc]; all_goals rfl)
  (try simp only [zB, reduceCtorEq] at hc14)
  have hie : (T.getD p nd0).2.2.1.length ≤ i := by have h9 : ((T.getD p nd0).2.2.1.length : Int) ≤ (i : Int) := hc14; omega
  refine aZ ?_
  apply k9; clear k9; refine kp [1, 2, 3, 4, 17, 25, 26, 27, 28] ?_
  refine am hP hN rfl ?_
  iterate 3 (refine aj rfl fun _ k0 => ?_; simp only [zO, zT, acs, reduceCtorEq, aa, V, ad, ag, af, ae, ai, az, aH, aQ, dG]; (repeat refine an ?_); (try refine .inl ?_); apply k0; clear k0; simp only [zP, V])
  refine ao ?_
  refine ⟨_, _, ?_, aA [1, 2, 3, 4], p, by omega, rfl, ?_⟩
  · omega
  · rw [if_neg (by omega), xx hp, List.take_of_length_le hie]; all_goals rfl
 (try simp only [zB, reduceCtorEq] at hc8)
 refine aZ ?_
 apply k3; clear k3; refine kp [1, 2, 3, 4, 17] ?_
 refine ah fun _ k20 => ?_
 refine am hP hN rfl ?_
 iterate 4 (refine aj rfl fun _ k0 => ?_; simp only [zO, zT, acs, reduceCtorEq, aa, V, ad, ag, af, ae, ai, az, aH, aQ, dG]; (repeat refine an ?_); (try refine .inl ?_); apply k0; clear k0; simp only [zP, V])
 refine ao ?_
 apply k20; clear k20; refine kp [1, 2, 3, 4, 17] ?_
 refine aE ?_
 refine ⟨nr, _, rfl, ?_⟩; simp only [zF, zP, aa, V, ai, az, aH, aQ, dG]
 refine VLE.of_eq ?_
 refine congrArg (fun n => AV.one (AC.int IntKind.i64 n)) ?_
 have hk0 : k = 0 := by omega
 subst hk0
 unfold dpT
 symm
 by_cases e : T.length = 0
 · rw [if_pos e, if_pos (by omega)]; exact (pD (by omega) 0).symm
 · rw [if_neg e, if_neg (by omega)]; exact (pD (by omega) _).symm
theorem yP (m : Mly) (T : List bj) (W : List Int) (v : Nat) (s a : Int) (hm : MOK m) (hs : 0 ≤ s ∧ s < m.nx.length) (ha : 0 ≤ a ∧ a < m.inp) (k : dX) : eO Try.prog [.vars 24 [.int .i64 m.inp, .int .i64 m.st, .list (.list (.int .i64)) m.nx, .list (.list (.int .i64)) m.ot], .vars 29 [.list ndT T], .vars 3 [.int .i64 s], .row (.int .i64) 3 v W, .vars 3 [.int .i64 a]] 42 [.agg [.int .i64 k.1, .int .i64 k.2.1], .one (.ptr 0 0 0 0), .one (.ptr 2 0 0 0), .one (.ptr 4 0 0 0)] { av := .one (.bool (decide (k.1 = m.out s a))), fp := [0, 1, 2, 3, 4] } := by
 have ol := hm.ol
 have q2 := hm.ql s.toNat (by omega)
 refine nb _ _ Try.func42 rfl (by kernel_rfl) (Nat.le_of_ble_eq_true rfl) (by intro k hk; simp only [ax, aI, Nat.zero_add, V] at hk; simp only [List.mem_cons, List.not_mem_nil, or_false]; omega) (fun C hP hN hB => ?_)
 replace hB : C.bL.length = 5 := by rw [hB]; rfl
 replace hN : C.N = 17 := hN
 simp only [bc, V]
 refine ah fun _ k1 => ?_
 refine am hP hN rfl ?_
 iterate 2 (refine aj rfl fun _ k0 => ?_; simp only [zO, zT, acs, reduceCtorEq, aa, V, ad, ag, af, ae, ai]; (repeat refine an ?_); (try refine .inl ?_); apply k0; clear k0; simp only [zP, V])
 refine ao ?_
 apply k1; clear k1; refine kp [0, 1, 2, 3, 4, 5] ?_
 refine ah fun _ k2 => ?_
 refine bu hP hN Try.mixed rfl ?_
 iterate 12 (refine aj rfl fun _ k0 => ?_; simp only [zO, zT, acs, reduceCtorEq, aa, V, ad, ag, af, ae, ai]; (repeat refine an ?_); (try refine .inl ?_); apply k0; clear k0; simp only [zP, V])
 refine ao ?_
 refine ⟨by kernel_rfl, ?_⟩
 apply k2; clear k2; refine kp [0, 1, 2, 3, 4, 5] ?_
 refine dh [5] ?_; simp only [cJ, lkp, zE, reduceCtorEq, aa]
 refine eQ (L1 := [_, _, _, _, _]) rfl (by rw [hB]; exact Nat.le_refl _) rfl rfl ?_
 refine aE ?_
 refine ⟨by first | exact .inl rfl | exact .inr rfl, _, rfl, ?_⟩; simp only [zP, aa, V, ai]
 first | exact ⟨rfl, rfl⟩ | rfl
theorem zQ (m : Mly) (T : List bj) (W : List Int) (v : Nat) (s a : Int) (hm : MOK m) (hs : 0 ≤ s ∧ s < m.nx.length) (ha : 0 ≤ a ∧ a < m.inp) (K : List dX) (i0 : Nat) (hK : K.length ≤ 1000000) (hi0 : i0 < K.length) (hk0 : (K.getD i0 kd0).1 = m.out s a) (hku : ∀ j, j < K.length → (K.getD j kd0).1 = m.out s a → j = i0) : eO Try.prog [.vars 24 [.int .i64 m.inp, .int .i64 m.st, .list (.list (.int .i64)) m.nx, .list (.list (.int .i64)) m.ot], .vars 29 [.list ndT T], .vars 3 [.int .i64 s], .row (.int .i64) 3 v W, .vars 3 [.int .i64 a]] 41 [.one (.list kdT K), .one (.fn 42 [.ref 0, .ref 2, .ref 4])] { av := .one (.int .i64 (i0 : Int)), fp := [0, 1, 2, 3, 4] } := by
 refine nb _ _ Try.func41 rfl (by kernel_rfl) (Nat.le_of_ble_eq_true rfl) (by intro k hk; simp only [ax, aI, Nat.zero_add, V] at hk; simp only [List.mem_cons, List.not_mem_nil, or_false]; omega) (fun C hP hN hB => ?_)
 replace hB : C.bL.length = 5 := by rw [hB]; rfl
 replace hN : C.N = 19 := hN
 simp only [bc, V]
 refine ah fun _ k1 => ?_
 refine am hP hN rfl ?_
 (refine aj rfl fun _ k0 => ?_; simp only [zO, zT, acs, reduceCtorEq, aa, V, ad, ag, af, ae, ai, az, aQ]; (repeat refine an ?_); (try refine .inl ?_); apply k0; clear k0; simp only [zP, V])
 refine ao ?_
 apply k1; clear k1; refine kp [0, 1, 4] ?_
 refine ah fun _ k2 => ?_
 refine ah fun _ k3 => ?_
 refine am hP hN rfl ?_
 iterate 3 (refine aj rfl fun _ k0 => ?_; simp only [zO, zT, acs, reduceCtorEq, aa, V, ad, ag, af, ae, ai, az, aQ]; (repeat refine an ?_); (try refine .inl ?_); apply k0; clear k0; simp only [zP, V])
 refine ao ?_
 apply k3; clear k3; refine kp [0, 1, 4, 7, 8] ?_
 refine aD ?_
 refine bn (fun n4 s4 => ∃ (i : Nat), (i ≤ K.length) ∧ (∀ j, j < i → ¬ (K.getD j kd0).1 = m.out s a) ∧ n4 = K.length - i ∧ s4 = { env := [(0, .one (.list kdT K)), (1, .one (.fn 42 [.ref 0, .ref 2, .ref 4])), (4, .one (.int .i64 0)), (7, .one (.int .i64 (K.length : Int))), (8, .one (.int .i64 (i : Int)))], L := [.vars 24 [.int .i64 m.inp, .int .i64 m.st, .list (.list (.int .i64)) m.nx, .list (.list (.int .i64)) m.ot], .vars 29 [.list ndT T], .vars 3 [.int .i64 s], .row (.int .i64) 3 v W, .vars 3 [.int .i64 a]] }) ?_ ?_
 ·exact ⟨_, _, aA [0, 1, 4, 7, 8], 0, Nat.zero_le _, fun j h => by omega, rfl, rfl⟩
 rintro n4 s4 ⟨i, hi, hnu, rfl, rfl⟩
 refine ah fun _ k5 => ?_
 refine am hP hN rfl ?_
 (refine aj rfl fun _ k0 => ?_; simp only [zO, zT, acs, reduceCtorEq, aa, V, ad, ag, af, ae, ai, az, aQ]; (repeat refine an ?_); (try refine .inl ?_); apply k0; clear k0; simp only [zP, V])
 refine ao ?_
 apply k5; clear k5; refine kp [0, 1, 4, 7, 8, 9] ?_
 refine ah fun _ k6 => ?_
 refine cd (fun hc7 => ?_) (fun hc7 => ?_)
 ·(try simp only [zB, reduceCtorEq] at hc7)
  refine ay ?_
  apply k6; clear k6; refine kp [0, 1, 4, 7, 8, 9] ?_
  refine ah fun _ k8 => ?_
  refine aD ?_
  refine ah fun _ k9 => ?_
  refine am hP hN rfl ?_
  iterate 2 (refine aj rfl fun _ k0 => ?_; simp only [zO, zT, acs, reduceCtorEq, aa, V, ad, ag, af, ae, ai, az, aQ]; (repeat refine an ?_); (try refine .inl ?_); apply k0; clear k0; simp only [zP, V])
  refine ao ?_
  apply k9; clear k9; refine kp [0, 1, 4, 5, 7, 8, 9] ?_
  refine ah fun _ k10 => ?_
  have hil : i < K.length := by omega
  refine am hP hN rfl ?_
  iterate 5 (refine aj rfl fun _ k0 => ?_; simp only [zO, zT, acs, reduceCtorEq, aa, V, ad, ag, af, ae, ai, az, aQ]; (repeat refine an ?_); (try refine .inl ?_); apply k0; clear k0; simp only [zP, V])
  refine aj rfl fun _ k0 => ?_
  refine aK (h := yP m T W v s a hm hs ha (K.getD i kd0)) rfl rfl (by first | exact rfl | (simp only [ev, zP, aa, V]; exact rfl)) (by simp only [zV, acs, reduceCtorEq, aa, V, ad, ag, af, ae, ai, az, aQ]) ?_
  apply k0; clear k0; simp only [zP, V]
  refine ao ?_
  apply k10; clear k10; refine kp [0, 1, 4, 5, 7, 8, 9, 16] ?_
  refine cd (fun hc11 => ?_) (fun hc11 => ?_)
  ·(try simp only [zB, reduceCtorEq] at hc11)
   have hii : i = i0 := hku i hil (by simpa using hc11)
   refine ah fun _ k12 => ?_
   refine am hP hN rfl ?_
   iterate 2 (refine aj rfl fun _ k0 => ?_; simp only [zO, zT, acs, reduceCtorEq, aa, V, ad, ag, af, ae, ai, az, aQ]; (repeat refine an ?_); (try refine .inl ?_); apply k0; clear k0; simp only [zP, V])
   refine ao ?_
   apply k12; clear k12; refine kp [0, 1, 4, 5, 7, 8, 9, 16] ?_
   refine aE ?_
   refine ⟨by first | exact .inl rfl | exact .inr rfl, _, rfl, ?_⟩; simp only [zP, aa, V, ai, az, aQ]
   rw [hii]; all_goals (first | exact ⟨rfl, rfl⟩ | rfl)
  (try simp only [zB, reduceCtorEq] at hc11)
  have hni : ¬ (K.getD i kd0).1 = m.out s a := by simpa using hc11
  refine ay ?_
  apply k8; clear k8; refine kp [0, 1, 4, 5, 7, 8, 9, 16] ?_
  refine am hP hN rfl ?_
  iterate 2 (refine aj rfl fun _ k0 => ?_; simp only [zO, zT, acs, reduceCtorEq, aa, V, ad, ag, af, ae, ai, az, aQ]; (repeat refine an ?_); (try refine .inl ?_); apply k0; clear k0; simp only [zP, V])
  refine ao ?_
  refine ⟨_, _, ?_, aA [0, 1, 4, 7, 8], i + 1, by omega, fun j h => ?_, rfl, rfl⟩
  · omega
  · by_cases e : j = i
    · rw [e]; exact hni
    · exact hnu j (by omega)
 ·exfalso; (try simp only [zB, reduceCtorEq] at hc7)
  exact absurd hk0 (hnu i0 (by omega))
set_option maxHeartbeats 1500000 in
theorem uW (m : Mly) (T : List bj) (hK : ∀ x ∈ T, x.2.2.1.length ≤ 1000000) (t : Int) : cb Try.prog 22 [m.av, .agg [.list ndT T], .one (.int .i64 t)] (.tup [.one (.list (.int .i64) (if gI m T t = 0 then (iD m T t).1 else [])), .one (.int .i64 (if gI m T t = 0 then ((iD m T t).2 : Int) else 0)), .one (.int .i64 (gI m T t))]) := by
 refine aT Try.func22 rfl (by kernel_rfl) (Nat.le_of_ble_eq_true rfl) rfl fun C hP hN hB => ?_
 replace hN : C.N = 76 := hN
 simp only [bc, V]
 refine ah fun _ k1 => ?_
 refine am hP hN rfl ?_
 iterate 5 (refine aj rfl fun _ k0 => ?_; simp only [zO, zT, acs, reduceCtorEq, aa, V, ad, ag, af, ae, Mly.av, ai, az, aH, aQ]; (repeat refine And.intro (by first | omega | assumption | exact rfl | exact haQ | exact haN | exact hiK) ?_); (try refine .inl ?_); apply k0; clear k0; simp only [zP, V])
 refine ao ?_
 apply k1; clear k1; refine kp [0, 1, 2, 3, 4, 6, 7, 8] ?_
 refine ah fun _ k2 => ?_
 refine ah fun _ k3 => ?_
 refine am hP hN rfl ?_
 iterate 2 (refine aj rfl fun _ k0 => ?_; simp only [zO, zT, acs, reduceCtorEq, aa, V, ad, ag, af, ae, Mly.av, ai, az, aH, aQ]; (repeat refine And.intro (by first | omega | assumption | exact rfl | exact haQ | exact haN | exact hiK) ?_); (try refine .inl ?_); apply k0; clear k0; simp only [zP, V])
 refine aj rfl fun _ k0 => ?_
 refine aK (h := aC (vY m T)) rfl rfl (by first | exact rfl | (simp only [ev, zP, aa, V]; exact rfl)) (by simp only [zV, acs, reduceCtorEq, aa, V, ad, ag, af, ae, Mly.av, ai, az, aH, aQ]) ?_
 apply k0; clear k0; simp only [zP, V]
 (refine aj rfl fun _ k0 => ?_; simp only [zO, zT, acs, reduceCtorEq, aa, V, ad, ag, af, ae, Mly.av, ai, az, aH, aQ]; (repeat refine And.intro (by first | omega | assumption | exact rfl | exact haQ | exact haN | exact hiK) ?_); (try refine .inl ?_); apply k0; clear k0; simp only [zP, V])
 refine ao ?_
 apply k3; clear k3; refine kp [0, 1, 2, 3, 4, 6, 7, 8, 9] ?_
 refine ah fun _ k4 => ?_
 refine am hP hN rfl ?_
 iterate 2 (refine aj rfl fun _ k0 => ?_; simp only [zO, zT, acs, reduceCtorEq, aa, V, ad, ag, af, ae, Mly.av, ai, az, aH, aQ]; (repeat refine And.intro (by first | omega | assumption | exact rfl | exact haQ | exact haN | exact hiK) ?_); (try refine .inl ?_); apply k0; clear k0; simp only [zP, V])
 refine ao ?_
 apply k4; clear k4; refine kp [0, 1, 2, 3, 4, 6, 7, 8, 9, 19] ?_
 refine cd (fun hc5 => ?_) (fun hc5 => ?_)
 ·(try simp only [zB, reduceCtorEq] at hc5)
  have hE : gI m T t = fm m T := if_pos hc5
  have hE0 : ¬ gI m T t = 0 := by rw [hE]; exact hc5
  refine ah fun _ k6 => ?_
  refine am hP hN rfl ?_
  iterate 4 (refine aj rfl fun _ k0 => ?_; simp only [zO, zT, acs, reduceCtorEq, aa, V, ad, ag, af, ae, Mly.av, ai, az, aH, aQ]; (repeat refine And.intro (by first | omega | assumption | exact rfl | exact haQ | exact haN | exact hiK) ?_); (try refine .inl ?_); apply k0; clear k0; simp only [zP, V])
  refine ao ?_
  apply k6; clear k6; refine kp [0, 1, 2, 3, 4, 6, 7, 8, 9, 19] ?_
  refine aE ?_
  refine ⟨nr, _, rfl, ?_⟩; simp only [zF, zP, aa, V, Mly.av, ai, az, aH, aQ]
  first
  | (rw [if_neg hE0, if_neg hE0, hE]; exact bE ⟨aF (bo rfl), aF (.refl _), aF (.refl _), trivial⟩)
  | (rw [if_pos hE, if_pos hE, hE, hW1, hW2]; exact VLE.of_eq rfl)
 (try simp only [zB, reduceCtorEq] at hc5)
 have hE0 : fm m T = 0 := by simpa using hc5
 obtain ⟨hv, hT, hrt⟩ := BP hE0
 have hm := eJ hv
 have hn2 := hm.n2
 have ol := hm.ol
 refine ay ?_
 apply k2; clear k2; refine kp [0, 1, 2, 3, 4, 6, 7, 8, 9, 19] ?_
 refine ah fun _ k7 => ?_
 refine ah fun _ k8 => ?_
 refine am hP hN rfl ?_
 iterate 3 (refine aj rfl fun _ k0 => ?_; simp only [zO, zT, acs, reduceCtorEq, aa, V, ad, ag, af, ae, Mly.av, ai, az, aH, aQ]; (repeat refine And.intro (by first | omega | assumption | exact rfl | exact haQ | exact haN | exact hiK) ?_); (try refine .inl ?_); apply k0; clear k0; simp only [zP, V])
 refine' aR (want := false) 5 rfl (m := 23) (by simp only [zP, aa, V]; exact rfl) (by kernel_rfl) rfl rfl rfl rfl rfl (fun hg9 => ?a9) ?b9 ?c9
 case a9 =>
  have hq9 := hg9; (try simp only [zB, reduceCtorEq] at hg9); simp only [zE]
  iterate 5 (refine bp rfl fun _ k0 => ?_; simp only [zO, zT, acs, reduceCtorEq, aa, V, ad, ag, af, ae, Mly.av, ai, az, aH, aQ]; (repeat refine And.intro (by first | omega | assumption | exact rfl | exact haQ | exact haN | exact hiK) ?_); (try refine .inl ?_); apply k0; clear k0; simp only [zP, V])
  (refine aj rfl fun _ k0 => ?_; simp only [zO, zT, acs, reduceCtorEq, aa, V, ad, ag, af, ae, Mly.av, ai, az, aH, aQ]; (repeat refine And.intro (by first | omega | assumption | exact rfl | exact haQ | exact haN | exact hiK) ?_); (try refine .inl ?_); apply k0; clear k0; simp only [zP, V])
  refine ao ?_
  refine ⟨by simp only [zP, aa, V]; exact rfl, rfl, ?_, rfl⟩; (repeat refine aS rfl ?_); exact bB (by exact rfl) hq9
 case b9 => exact cD
 simp only [bh, aY]
 refine ao ?_
 apply k8; clear k8; refine kp [0, 1, 2, 3, 4, 6, 7, 8, 9, 19, 29] ?_
 refine cd (fun hc10 => ?_) (fun hc10 => ?_)
 ·(try simp only [zB, reduceCtorEq] at hc10)
  have hE : gI m T t = 2 := (if_neg (fun h => h hE0)).trans (if_pos hc10)
  have hE0 : ¬ gI m T t = 0 := by rw [hE]; decide
  refine ah fun _ k11 => ?_
  refine am hP hN rfl ?_
  iterate 3 (refine aj rfl fun _ k0 => ?_; simp only [zO, zT, acs, reduceCtorEq, aa, V, ad, ag, af, ae, Mly.av, ai, az, aH, aQ]; (repeat refine And.intro (by first | omega | assumption | exact rfl | exact haQ | exact haN | exact hiK) ?_); (try refine .inl ?_); apply k0; clear k0; simp only [zP, V])
  refine ao ?_
  apply k11; clear k11; refine kp [0, 1, 2, 3, 4, 6, 7, 8, 9, 19, 29] ?_
  refine aE ?_
  refine ⟨nr, _, rfl, ?_⟩; simp only [zF, zP, aa, V, Mly.av, ai, az, aH, aQ]
  first
  | (rw [if_neg hE0, if_neg hE0, hE]; exact bE ⟨aF (bo rfl), aF (.refl _), aF (.refl _), trivial⟩)
  | (rw [if_pos hE, if_pos hE, hE, hW1, hW2]; exact VLE.of_eq rfl)
 (try simp only [zB, reduceCtorEq] at hc10)
 have ht : 0 ≤ t ∧ t < m.nx.length := hc10
 have hE : gI m T t = 0 := (if_neg (fun h => h hE0)).trans (if_neg (by omega))
 refine ay ?_
 apply k7; clear k7; refine kp [0, 1, 2, 3, 4, 6, 7, 8, 9, 19, 29] ?_
 refine ah fun _ k12 => ?_
 refine am hP hN rfl ?_
 (refine aj rfl fun _ k0 => ?_; simp only [zO, zT, acs, reduceCtorEq, aa, V, ad, ag, af, ae, Mly.av, ai, az, aH, aQ]; (repeat refine And.intro (by first | omega | assumption | exact rfl | exact haQ | exact haN | exact hiK) ?_); (try refine .inl ?_); apply k0; clear k0; simp only [zP, V])
 refine ao ?_
 apply k12; clear k12; refine kp [0, 1, 2, 3, 4, 6, 7, 8, 9, 10, 19, 29] ?_
 refine ah fun _ k13 => ?_
 refine am hP hN rfl ?_
 iterate 4 (refine aj rfl fun _ k0 => ?_; simp only [zO, zT, acs, reduceCtorEq, aa, V, ad, ag, af, ae, Mly.av, ai, az, aH, aQ]; (repeat refine And.intro (by first | omega | assumption | exact rfl | exact haQ | exact haN | exact hiK) ?_); (try refine .inl ?_); apply k0; clear k0; simp only [zP, V])
 refine ao ?_
 apply k13; clear k13; refine kp [0, 1, 2, 3, 4, 6, 7, 8, 9, 10, 11, 12, 19, 29] ?_
 refine ah fun _ k14 => ?_
 refine aD ?_
 refine fP 10 (.int .i64) 3 (by decide) rfl ?_; simp only [ax, aI, aN, b6, Nat.zero_add, V]
 refine bn (fun n15 s15 => ∃ (p f v : Nat) (s : Int) (W : List Int) (G : List AO), (RTI m T p s) ∧ ((W ++ (wdG m T f p s).1, (wdG m T f p s).2) = iD m T t) ∧ (T.length ≤ f + p) ∧ (W.length ≤ p) ∧ (G = [] ∨ ∃ ob, G = [ob]) ∧ n15 = T.length + 1 - p ∧ s15 = { env := [(3, .one (.ptr 0 0 0 0)), (4, .one (.ptr 1 0 0 0)), (6, .one .nils), (7, .one (.int .i64 0)), (8, .one (.int .i64 0)), (10, .one (.row 3 v)), (11, .one (.int .i64 (p : Int))), (12, .one (.ptr 2 0 0 0))], L := [.vars 24 [.int .i64 m.inp, .int .i64 m.st, .list (.list (.int .i64)) m.nx, .list (.list (.int .i64)) m.ot], .vars 29 [.list ndT T], .vars 3 [.int .i64 s], .row (.int .i64) 3 v W] ++ G }) ?_ ?_
 ·exact ⟨_, _, aA [3, 4, 6, 7, 8, 10, 11, 12], 0, T.length, 0, t, [], [], yq hrt ht, rfl, by omega, Nat.zero_le _, .inl rfl, rfl, rfl⟩
 rintro n15 s15 ⟨p, f, v, s, W, G, hrti, hW, hfp, hWl, hG, rfl, rfl⟩
 refine yv (L1 := [_, _, _, _]) hG rfl (by rw [hB]; simp) rfl rfl ?_
 refine ah fun _ k16 => ?_
 refine ah fun _ k17 => ?_
 have hpl9 := BV hrti
 refine am hP hN rfl ?_
 iterate 7 (refine aj rfl fun _ k0 => ?_; simp only [zO, zT, acs, reduceCtorEq, aa, V, ad, ag, af, ae, Mly.av, ai, az, aH, aQ]; (repeat refine And.intro (by first | omega | assumption | exact rfl | exact haQ | exact haN | exact hiK) ?_); (try refine .inl ?_); apply k0; clear k0; simp only [zP, V])
 refine ao ?_
 apply k17; clear k17; refine kp [3, 4, 6, 7, 8, 10, 11, 12, 37] ?_
 refine cd (fun hc18 => ?_) (fun hc18 => ?_)
 ·(try simp only [zB, reduceCtorEq] at hc18)
  have h0 : ¬ (T.getD p nd0).2.1 < 0 := by have h9 : 0 ≤ (T.getD p nd0).2.1 := hc18; omega
  obtain ⟨hpl, hs9, ha9, i0, hi0, hk0, hku, hk1, hk2, hrti2⟩ := zt hm hrti h0
  have hkm : (T.getD p nd0) ∈ T := by simp [List.getD, hpl]
  have hkl := hK _ hkm
  have q1 := hm.rl s.toNat (by omega)
  have q2 := hm.ql s.toNat (by omega)
  have hto : (((T.getD p nd0).2.2.1.getD i0 kd0).2.1.toNat : Int) = ((T.getD p nd0).2.2.1.getD i0 kd0).2.1 := by omega
  have haQ : 0 ≤ (T.getD p nd0).2.1 ∧ (T.getD p nd0).2.1 < ((m.ot.getD s.toNat []).length : Int) := by omega
  have haN : 0 ≤ (T.getD p nd0).2.1 ∧ (T.getD p nd0).2.1 < ((m.nx.getD s.toNat []).length : Int) := by omega
  have hiK : (0 : Int) ≤ (i0 : Int) ∧ (i0 : Int) < ((T.getD p nd0).2.2.1.length : Int) := by omega
  refine ay ?_
  apply k16; clear k16; refine kp [3, 4, 6, 7, 8, 10, 11, 12, 37] ?_
  refine aD ?_
  refine ah fun _ k19 => ?_
  refine am hP hN rfl ?_
  iterate 8 (refine aj rfl fun _ k0 => ?_; simp only [zO, zT, acs, reduceCtorEq, aa, V, ad, ag, af, ae, Mly.av, ai, az, aH, aQ]; (repeat refine And.intro (by first | omega | assumption | exact rfl | exact haQ | exact haN | exact hiK) ?_); (try refine .inl ?_); apply k0; clear k0; simp only [zP, V])
  refine ao ?_
  apply k19; clear k19; refine kp [3, 4, 6, 7, 8, 10, 11, 12, 13, 37] ?_
  refine ah fun _ k20 => ?_
  refine am hP hN rfl ?_
  iterate 6 (refine aj rfl fun _ k0 => ?_; simp only [zO, zT, acs, reduceCtorEq, aa, V, ad, ag, af, ae, Mly.av, ai, az, aH, aQ]; (repeat refine And.intro (by first | omega | assumption | exact rfl | exact haQ | exact haN | exact hiK) ?_); (try refine .inl ?_); apply k0; clear k0; simp only [zP, V])
  (refine aj rfl fun _ k0 => ?_; simp only [zE, op1, ev, lkp, d7, ca, bZ, df, Nat.mul_one, ci, cT, acs, Ty.dflt, zG, cm, cG, Ty.size, ne_eq, not_false_eq_true, Int.natCast_one, Int.mul_one, iN, jV, qY, reduceCtorEq, aa, V, ad, ag, af, ae, Try.el27, Try.el50, Try.st29, Try.st52, Try.td2, Try.td27, Try.td29, Try.td3, Try.td50, Try.td52, Try.td77, Mly.av, ai, az, aH, aQ]; (repeat refine And.intro (by first | omega | assumption | exact rfl | exact haQ | exact haN | exact hiK) ?_); (try refine .inl ?_); apply k0; clear k0; simp only [zP, V])
  refine aj rfl fun _ k0 => ?_
  refine aK (h := zQ m T W v s (T.getD p nd0).2.1 hm hs9 ha9 (T.getD p nd0).2.2.1 i0 hkl hi0 hk0 hku) rfl rfl (by first | exact rfl | (simp only [ev, zP, aa, V]; exact rfl)) (by simp only [zV, acs, reduceCtorEq, aa, V, ad, ag, af, ae, Mly.av, ai, az, aH, aQ]) ?_
  apply k0; clear k0; simp only [zP, V]
  (refine aj rfl fun _ k0 => ?_; simp only [zO, zT, acs, reduceCtorEq, aa, V, ad, ag, af, ae, Mly.av, ai, az, aH, aQ]; (repeat refine And.intro (by first | omega | assumption | exact rfl | exact haQ | exact haN | exact hiK) ?_); (try refine .inl ?_); apply k0; clear k0; simp only [zP, V])
  refine ao ?_
  apply k20; clear k20; refine kp [3, 4, 6, 7, 8, 10, 11, 12, 13, 14, 37] ?_
  refine ah fun _ k21 => ?_
  refine am hP hN rfl ?_
  iterate 5 (refine aj rfl fun _ k0 => ?_; simp only [zO, zT, acs, reduceCtorEq, aa, V, ad, ag, af, ae, Mly.av, ai, az, aH, aQ]; (repeat refine And.intro (by first | omega | assumption | exact rfl | exact haQ | exact haN | exact hiK) ?_); (try refine .inl ?_); apply k0; clear k0; simp only [zP, V])
  refine ao ?_
  apply k21; clear k21; refine kp [3, 4, 6, 7, 8, 10, 11, 12, 13, 14, 37] ?_
  refine ah fun _ k22 => ?_
  refine am hP hN rfl ?_
  iterate 11 (refine aj rfl fun _ k0 => ?_; simp only [zO, zT, acs, reduceCtorEq, aa, V, ad, ag, af, ae, Mly.av, ai, az, aH, aQ]; (repeat refine And.intro (by first | omega | assumption | exact rfl | exact haQ | exact haN | exact hiK) ?_); (try refine .inl ?_); apply k0; clear k0; simp only [zP, V])
  refine ao ?_
  apply k22; clear k22; refine kp [3, 4, 6, 7, 8, 10, 11, 12, 13, 14, 37] ?_
  refine bu hP hN Try.mixed rfl ?_
  iterate 9 (refine aj rfl fun _ k0 => ?_; simp only [zO, zT, acs, reduceCtorEq, aa, V, ad, ag, af, ae, Mly.av, ai, az, aH, aQ]; (repeat refine And.intro (by first | omega | assumption | exact rfl | exact haQ | exact haN | exact hiK) ?_); (try refine .inl ?_); apply k0; clear k0; simp only [zP, V])
  refine ao ?_
  refine ⟨by kernel_rfl, ?_⟩
  obtain ⟨g, rfl⟩ : ∃ g, f = g + 1 := ⟨f - 1, by omega⟩
  refine ⟨_, _, ?_, aA [3, 4, 6, 7, 8, 10, 11, 12], ((T.getD p nd0).2.2.1.getD i0 kd0).2.1.toNat, g, v + 1, m.nxt s (T.getD p nd0).2.1, W ++ [(T.getD p nd0).2.1], [.vars 3 [.int .i64 (T.getD p nd0).2.1]], hrti2, zp h0 hi0 hk0 hku hW, by omega, by rw [ar]; simp only [ax, aI]; omega, .inr ⟨_, rfl⟩, rfl, ?_⟩
  · omega
  · rw [hto]; rfl
 (try simp only [zB, reduceCtorEq] at hc18)
 have h0 : (T.getD p nd0).2.1 < 0 := by have h9 : (T.getD p nd0).2.1 < 0 := hc18; exact h9
 rw [kv h0, List.append_nil] at hW
 have hW1 : (iD m T t).1 = W := by rw [← hW]
 have hW2 : (iD m T t).2 = p := by rw [← hW]
 refine aZ ?_
 apply k14; clear k14; refine kp [3, 4, 6, 7, 8, 10, 11, 12, 37] ?_
 refine ah fun _ k23 => ?_
 refine dn 3 rfl ?_; simp only [aJ, bz, zS, aa, and_self, and_true, true_and, and_false, false_and, if_true, if_false, eq_self, reduceCtorEq, Nat.one_ne_zero, Nat.zero_ne_one]
 refine am hP hN rfl ?_
 iterate 5 (refine aj rfl fun _ k0 => ?_; simp only [zO, zT, acs, reduceCtorEq, aa, V, ad, ag, af, ae, Mly.av, ai, az, aH, aQ]; (repeat refine And.intro (by first | omega | assumption | exact rfl | exact haQ | exact haN | exact hiK) ?_); (try refine .inl ?_); apply k0; clear k0; simp only [zP, V])
 refine ao ?_
 apply k23; clear k23; refine kp [3, 4, 6, 7, 8, 10, 11, 12, 37] ?_
 refine aE ?_
 refine ⟨nr, _, rfl, ?_⟩; simp only [zF, zP, aa, V, Mly.av, ai, az, aH, aQ]
 first
 | (rw [if_neg hE0, if_neg hE0, hE]; exact bE ⟨aF (bo rfl), aF (.refl _), aF (.refl _), trivial⟩)
 | (rw [if_pos hE, if_pos hE, hE, hW1, hW2]; exact VLE.of_eq rfl)
theorem xi (xs ys : List Int) : cb Try.prog 24 [.one (.list (.int .i64) xs), .one (.list (.int .i64) ys)] (.one (.bool (decide (xs = ys)))) := by
 refine aT Try.func24 rfl (by kernel_rfl) (Nat.le_of_ble_eq_true rfl) rfl fun C hP hN hB => ?_
 replace hN : C.N = 26 := hN
 simp only [bc, V]
 refine mL 0 rfl fun hf0 => ?_; simp only [lkp, if_true, if_false, reduceCtorEq, aa, eq_self, Nat.one_ne_zero, Nat.zero_ne_one, sF, qE, qq, Fit, and_true, implies_true, true_and] at hf0
 refine ah fun _ k1 => ?_
 refine am hP hN rfl ?_
 (refine aj rfl fun _ k0 => ?_; simp only [zO, zT, acs, reduceCtorEq, aa, V, ad, ag, af, ae]; (repeat refine an ?_); (try refine .inl ?_); apply k0; clear k0; simp only [zP, V])
 refine ao ?_
 apply k1; clear k1; refine kp [0, 1, 4] ?_
 refine ah fun _ k2 => ?_
 refine ah fun _ k3 => ?_
 refine am hP hN rfl ?_
 iterate 5 (refine aj rfl fun _ k0 => ?_; simp only [zO, zT, acs, reduceCtorEq, aa, V, ad, ag, af, ae]; (repeat refine an ?_); (try refine .inl ?_); apply k0; clear k0; simp only [zP, V])
 refine ao ?_
 apply k3; clear k3; refine kp [0, 1, 4, 10] ?_
 refine cd (fun hc4 => ?_) (fun hc4 => ?_)
 ·(try simp only [zB, reduceCtorEq] at hc4)
  refine ah fun _ k5 => ?_
  refine am hP hN rfl ?_
  (refine aj rfl fun _ k0 => ?_; simp only [zO, zT, acs, reduceCtorEq, aa, V, ad, ag, af, ae]; (repeat refine an ?_); (try refine .inl ?_); apply k0; clear k0; simp only [zP, V])
  refine ao ?_
  apply k5; clear k5; refine kp [0, 1, 4, 10] ?_
  refine aE ?_
  refine ⟨nr, _, rfl, ?_⟩; simp only [zF, zP, aa, V]
  refine VLE.of_eq ?_
  first
  | (refine eG ?_; rintro rfl; first | exact absurd rfl ‹¬ _› | omega)
  | (refine eW ?_; have hk1 : k = xs.length := by omega
     have hk2 : k = ys.length := by omega
     rw [hk1, aO, ← hk1, hk2, aO] at hT; exact hT)
 (try simp only [zB, reduceCtorEq] at hc4)
 refine ay ?_
 apply k2; clear k2; refine kp [0, 1, 4, 10] ?_
 refine ah fun _ k6 => ?_
 refine ah fun _ k7 => ?_
 refine am hP hN rfl ?_
 (refine aj rfl fun _ k0 => ?_; simp only [zO, zT, acs, reduceCtorEq, aa, V, ad, ag, af, ae]; (repeat refine an ?_); (try refine .inl ?_); apply k0; clear k0; simp only [zP, V])
 refine ao ?_
 apply k7; clear k7; refine kp [0, 1, 4, 5, 10] ?_
 refine aD ?_
 refine bn (fun n8 s8 => ∃ (k : Nat), (k ≤ xs.length) ∧ (xs.take k = ys.take k) ∧ n8 = xs.length - k ∧ s8 = { env := [(0, .one (.list (.int .i64) xs)), (1, .one (.list (.int .i64) ys)), (5, .one (.int .i64 (k : Int)))], L := [] }) ?_ ?_
 ·exact ⟨_, _, aA [0, 1, 5], 0, Nat.zero_le _, rfl, rfl, rfl⟩
 rintro n8 s8 ⟨k, hk, hT, rfl, rfl⟩
 refine ah fun _ k9 => ?_
 refine ah fun _ k10 => ?_
 refine am hP hN rfl ?_
 iterate 4 (refine aj rfl fun _ k0 => ?_; simp only [zO, zT, acs, reduceCtorEq, aa, V, ad, ag, af, ae]; (repeat refine an ?_); (try refine .inl ?_); apply k0; clear k0; simp only [zP, V])
 refine ao ?_
 apply k10; clear k10; refine kp [0, 1, 5, 14] ?_
 refine cd (fun hc11 => ?_) (fun hc11 => ?_)
 ·(try simp only [zB, reduceCtorEq] at hc11)
  refine ay ?_
  apply k9; clear k9; refine kp [0, 1, 5, 14] ?_
  refine ah fun _ k12 => ?_
  refine aD ?_
  refine ah fun _ k13 => ?_
  refine bu hP hN Try.mixed rfl ?_
  iterate 9 (refine aj rfl fun _ k0 => ?_; simp only [zO, zT, acs, reduceCtorEq, aa, V, ad, ag, af, ae]; (repeat refine an ?_); (try refine .inl ?_); apply k0; clear k0; simp only [zP, V])
  refine ao ?_
  refine ⟨by kernel_rfl, ?_⟩
  apply k13; clear k13; refine kp [0, 1, 5, 14, 25] ?_
  refine cd (fun hc14 => ?_) (fun hc14 => ?_)
  ·(try simp only [zB, reduceCtorEq] at hc14)
   refine ah fun _ k15 => ?_
   refine am hP hN rfl ?_
   (refine aj rfl fun _ k0 => ?_; simp only [zO, zT, acs, reduceCtorEq, aa, V, ad, ag, af, ae]; (repeat refine an ?_); (try refine .inl ?_); apply k0; clear k0; simp only [zP, V])
   refine ao ?_
   apply k15; clear k15; refine kp [0, 1, 4, 5, 14, 25] ?_
   refine aE ?_
   refine ⟨nr, _, rfl, ?_⟩; simp only [zF, zP, aa, V]
   refine VLE.of_eq ?_
   first
   | (refine eG ?_; rintro rfl; first | exact absurd rfl ‹¬ _› | omega)
   | (refine eW ?_; have hk1 : k = xs.length := by omega
      have hk2 : k = ys.length := by omega
      rw [hk1, aO, ← hk1, hk2, aO] at hT; exact hT)
  (try simp only [zB, reduceCtorEq] at hc14)
  refine ay ?_
  apply k12; clear k12; refine kp [0, 1, 5, 14, 25] ?_
  refine am hP hN rfl ?_
  iterate 3 (refine aj rfl fun _ k0 => ?_; simp only [zO, zT, acs, reduceCtorEq, aa, V, ad, ag, af, ae]; (repeat refine an ?_); (try refine .inl ?_); apply k0; clear k0; simp only [zP, V])
  refine ao ?_
  refine ⟨_, _, ?_, aA [0, 1, 5], k + 1, by omega, iX (d := 0) hT (by omega) (by omega) ?_, rfl, rfl⟩
  · omega
  · first | assumption | omega
 (try simp only [zB, reduceCtorEq] at hc11)
 refine aZ ?_
 apply k6; clear k6; refine kp [0, 1, 5, 14] ?_
 refine ah fun _ k16 => ?_
 refine am hP hN rfl ?_
 (refine aj rfl fun _ k0 => ?_; simp only [zO, zT, acs, reduceCtorEq, aa, V, ad, ag, af, ae]; (repeat refine an ?_); (try refine .inl ?_); apply k0; clear k0; simp only [zP, V])
 refine ao ?_
 apply k16; clear k16; refine kp [0, 1, 4, 5, 14] ?_
 refine aE ?_
 refine ⟨nr, _, rfl, ?_⟩; simp only [zF, zP, aa, V]
 refine VLE.of_eq ?_
 first
 | (refine eG ?_; rintro rfl; first | exact absurd rfl ‹¬ _› | omega)
 | (refine eW ?_; have hk1 : k = xs.length := by omega
    have hk2 : k = ys.length := by omega
    rw [hk1, aO, ← hk1, hk2, aO] at hT; exact hT)
theorem BL (xs ys : List Int) : cb Try.prog 29 [.one (.list (.int .i64) xs), .one (.list (.int .i64) ys)] (.one (.bool (decide (xs = ys)))) := by
 refine aT Try.func29 rfl (by kernel_rfl) (Nat.le_of_ble_eq_true rfl) rfl fun C hP hN hB => ?_
 replace hN : C.N = 26 := hN
 simp only [bc, V]
 refine mL 0 rfl fun hf0 => ?_; simp only [lkp, if_true, if_false, reduceCtorEq, aa, eq_self, Nat.one_ne_zero, Nat.zero_ne_one, sF, qE, qq, Fit, and_true, implies_true, true_and] at hf0
 refine ah fun _ k1 => ?_
 refine am hP hN rfl ?_
 (refine aj rfl fun _ k0 => ?_; simp only [zO, zT, acs, reduceCtorEq, aa, V, ad, ag, af, ae]; (repeat refine an ?_); (try refine .inl ?_); apply k0; clear k0; simp only [zP, V])
 refine ao ?_
 apply k1; clear k1; refine kp [0, 1, 4] ?_
 refine ah fun _ k2 => ?_
 refine ah fun _ k3 => ?_
 refine am hP hN rfl ?_
 iterate 5 (refine aj rfl fun _ k0 => ?_; simp only [zO, zT, acs, reduceCtorEq, aa, V, ad, ag, af, ae]; (repeat refine an ?_); (try refine .inl ?_); apply k0; clear k0; simp only [zP, V])
 refine ao ?_
 apply k3; clear k3; refine kp [0, 1, 4, 10] ?_
 refine cd (fun hc4 => ?_) (fun hc4 => ?_)
 ·(try simp only [zB, reduceCtorEq] at hc4)
  refine ah fun _ k5 => ?_
  refine am hP hN rfl ?_
  (refine aj rfl fun _ k0 => ?_; simp only [zO, zT, acs, reduceCtorEq, aa, V, ad, ag, af, ae]; (repeat refine an ?_); (try refine .inl ?_); apply k0; clear k0; simp only [zP, V])
  refine ao ?_
  apply k5; clear k5; refine kp [0, 1, 4, 10] ?_
  refine aE ?_
  refine ⟨nr, _, rfl, ?_⟩; simp only [zF, zP, aa, V]
  refine VLE.of_eq ?_
  first
  | (refine eG ?_; rintro rfl; first | exact absurd rfl ‹¬ _› | omega)
  | (refine eW ?_; have hk1 : k = xs.length := by omega
     have hk2 : k = ys.length := by omega
     rw [hk1, aO, ← hk1, hk2, aO] at hT; exact hT)
 (try simp only [zB, reduceCtorEq] at hc4)
 refine ay ?_
 apply k2; clear k2; refine kp [0, 1, 4, 10] ?_
 refine ah fun _ k6 => ?_
 refine ah fun _ k7 => ?_
 refine am hP hN rfl ?_
 (refine aj rfl fun _ k0 => ?_; simp only [zO, zT, acs, reduceCtorEq, aa, V, ad, ag, af, ae]; (repeat refine an ?_); (try refine .inl ?_); apply k0; clear k0; simp only [zP, V])
 refine ao ?_
 apply k7; clear k7; refine kp [0, 1, 4, 5, 10] ?_
 refine aD ?_
 refine bn (fun n8 s8 => ∃ (k : Nat), (k ≤ xs.length) ∧ (xs.take k = ys.take k) ∧ n8 = xs.length - k ∧ s8 = { env := [(0, .one (.list (.int .i64) xs)), (1, .one (.list (.int .i64) ys)), (5, .one (.int .i64 (k : Int)))], L := [] }) ?_ ?_
 ·exact ⟨_, _, aA [0, 1, 5], 0, Nat.zero_le _, rfl, rfl, rfl⟩
 rintro n8 s8 ⟨k, hk, hT, rfl, rfl⟩
 refine ah fun _ k9 => ?_
 refine ah fun _ k10 => ?_
 refine am hP hN rfl ?_
 iterate 4 (refine aj rfl fun _ k0 => ?_; simp only [zO, zT, acs, reduceCtorEq, aa, V, ad, ag, af, ae]; (repeat refine an ?_); (try refine .inl ?_); apply k0; clear k0; simp only [zP, V])
 refine ao ?_
 apply k10; clear k10; refine kp [0, 1, 5, 14] ?_
 refine cd (fun hc11 => ?_) (fun hc11 => ?_)
 ·(try simp only [zB, reduceCtorEq] at hc11)
  refine ay ?_
  apply k9; clear k9; refine kp [0, 1, 5, 14] ?_
  refine ah fun _ k12 => ?_
  refine aD ?_
  refine ah fun _ k13 => ?_
  refine bu hP hN Try.mixed rfl ?_
  iterate 9 (refine aj rfl fun _ k0 => ?_; simp only [zO, zT, acs, reduceCtorEq, aa, V, ad, ag, af, ae]; (repeat refine an ?_); (try refine .inl ?_); apply k0; clear k0; simp only [zP, V])
  refine ao ?_
  refine ⟨by kernel_rfl, ?_⟩
  apply k13; clear k13; refine kp [0, 1, 5, 14, 25] ?_
  refine cd (fun hc14 => ?_) (fun hc14 => ?_)
  ·(try simp only [zB, reduceCtorEq] at hc14)
   refine ah fun _ k15 => ?_
   refine am hP hN rfl ?_
   (refine aj rfl fun _ k0 => ?_; simp only [zO, zT, acs, reduceCtorEq, aa, V, ad, ag, af, ae]; (repeat refine an ?_); (try refine .inl ?_); apply k0; clear k0; simp only [zP, V])
   refine ao ?_
   apply k15; clear k15; refine kp [0, 1, 4, 5, 14, 25] ?_
   refine aE ?_
   refine ⟨nr, _, rfl, ?_⟩; simp only [zF, zP, aa, V]
   refine VLE.of_eq ?_
   first
   | (refine eG ?_; rintro rfl; first | exact absurd rfl ‹¬ _› | omega)
   | (refine eW ?_; have hk1 : k = xs.length := by omega
      have hk2 : k = ys.length := by omega
      rw [hk1, aO, ← hk1, hk2, aO] at hT; exact hT)
  (try simp only [zB, reduceCtorEq] at hc14)
  refine ay ?_
  apply k12; clear k12; refine kp [0, 1, 5, 14, 25] ?_
  refine am hP hN rfl ?_
  iterate 3 (refine aj rfl fun _ k0 => ?_; simp only [zO, zT, acs, reduceCtorEq, aa, V, ad, ag, af, ae]; (repeat refine an ?_); (try refine .inl ?_); apply k0; clear k0; simp only [zP, V])
  refine ao ?_
  refine ⟨_, _, ?_, aA [0, 1, 5], k + 1, by omega, iX (d := 0) hT (by omega) (by omega) ?_, rfl, rfl⟩
  · omega
  · first | assumption | omega
 (try simp only [zB, reduceCtorEq] at hc11)
 refine aZ ?_
 apply k6; clear k6; refine kp [0, 1, 5, 14] ?_
 refine ah fun _ k16 => ?_
 refine am hP hN rfl ?_
 (refine aj rfl fun _ k0 => ?_; simp only [zO, zT, acs, reduceCtorEq, aa, V, ad, ag, af, ae]; (repeat refine an ?_); (try refine .inl ?_); apply k0; clear k0; simp only [zP, V])
 refine ao ?_
 apply k16; clear k16; refine kp [0, 1, 4, 5, 14] ?_
 refine aE ?_
 refine ⟨nr, _, rfl, ?_⟩; simp only [zF, zP, aa, V]
 refine VLE.of_eq ?_
 first
 | (refine eG ?_; rintro rfl; first | exact absurd rfl ‹¬ _› | omega)
 | (refine eW ?_; have hk1 : k = xs.length := by omega
    have hk2 : k = ys.length := by omega
    rw [hk1, aO, ← hk1, hk2, aO] at hT; exact hT)
set_option maxHeartbeats 1500000 in
theorem wc (T U : List bj) (hT : T.length ≤ 100000) (hK : ∀ x ∈ T, x.2.2.1.length ≤ 1000000) : cb Try.prog 13 [.agg [.list ndT T], .agg [.list ndT U]] (.one (.bool (decide (T = U)))) := by
 refine aT Try.func13 rfl (by kernel_rfl) (Nat.le_of_ble_eq_true rfl) rfl fun C hP hN hB => ?_
 replace hN : C.N = 73 := hN
 simp only [bc, V]
 refine ah fun _ k1 => ?_
 refine am hP hN rfl ?_
 iterate 3 (refine aj rfl fun _ k0 => ?_; simp only [zO, zT, acs, reduceCtorEq, aa, V, ad, ag, af, ae, ai, az, aH, aQ, au]; (repeat refine And.intro (by first | omega | assumption | exact rfl | exact hkX | exact hkY) ?_); (try refine .inl ?_); apply k0; clear k0; simp only [zP, V])
 refine ao ?_
 apply k1; clear k1; refine kp [0, 1, 2, 3, 4] ?_
 refine ah fun _ k2 => ?_
 refine ah fun _ k3 => ?_
 refine am hP hN rfl ?_
 iterate 7 (refine aj rfl fun _ k0 => ?_; simp only [zO, zT, acs, reduceCtorEq, aa, V, ad, ag, af, ae, ai, az, aH, aQ, au]; (repeat refine And.intro (by first | omega | assumption | exact rfl | exact hkX | exact hkY) ?_); (try refine .inl ?_); apply k0; clear k0; simp only [zP, V])
 refine ao ?_
 apply k3; clear k3; refine kp [0, 1, 2, 3, 4, 15] ?_
 refine cd (fun hc4 => ?_) (fun hc4 => ?_)
 ·(try simp only [zB, reduceCtorEq] at hc4)
  have hno : ¬ T = U := fun e => hc4 (by rw [e])
  refine ah fun _ k5 => ?_
  refine am hP hN rfl ?_
  (refine aj rfl fun _ k0 => ?_; simp only [zO, zT, acs, reduceCtorEq, aa, V, ad, ag, af, ae, ai, az, aH, aQ, au]; (repeat refine And.intro (by first | omega | assumption | exact rfl | exact hkX | exact hkY) ?_); (try refine .inl ?_); apply k0; clear k0; simp only [zP, V])
  refine ao ?_
  apply k5; clear k5; refine kp [0, 1, 2, 3, 4, 15] ?_
  refine aE ?_
  refine ⟨nr, _, rfl, ?_⟩; simp only [zF, zP, aa, V, ai, az, aH, aQ, au]
  refine VLE.of_eq ?_
  refine congrArg (fun b => AV.one (AC.bool b)) ?_
  symm
  first
  | exact decide_eq_false hno
  | exact decide_eq_true (mS hll (fun q hq => hu q (by omega)))
 (try simp only [zB, reduceCtorEq] at hc4)
 have hll : T.length = U.length := by omega
 refine ay ?_
 apply k2; clear k2; refine kp [0, 1, 2, 3, 4, 15] ?_
 refine ah fun _ k6 => ?_
 refine ah fun _ k7 => ?_
 refine am hP hN rfl ?_
 (refine aj rfl fun _ k0 => ?_; simp only [zO, zT, acs, reduceCtorEq, aa, V, ad, ag, af, ae, ai, az, aH, aQ, au]; (repeat refine And.intro (by first | omega | assumption | exact rfl | exact hkX | exact hkY) ?_); (try refine .inl ?_); apply k0; clear k0; simp only [zP, V])
 refine ao ?_
 apply k7; clear k7; refine kp [0, 1, 2, 3, 4, 5, 15] ?_
 refine aD ?_
 refine bn (fun n8 s8 => ∃ (i : Nat), (i ≤ T.length) ∧ (∀ q, q < i → T.getD q nd0 = U.getD q nd0) ∧ n8 = T.length - i ∧ s8 = { env := [(2, .one (.ptr 0 0 0 0)), (3, .one (.ptr 1 0 0 0)), (4, .one (.bool false)), (5, .one (.int .i64 (i : Int)))], L := [.vars 29 [.list ndT T], .vars 29 [.list ndT U]] }) ?_ ?_
 ·exact ⟨_, _, aA [2, 3, 4, 5], 0, Nat.zero_le _, fun q h => by omega, rfl, rfl⟩
 rintro n8 s8 ⟨i, hi, hu, rfl, rfl⟩
 refine ah fun _ k9 => ?_
 refine ah fun _ k10 => ?_
 refine am hP hN rfl ?_
 iterate 5 (refine aj rfl fun _ k0 => ?_; simp only [zO, zT, acs, reduceCtorEq, aa, V, ad, ag, af, ae, ai, az, aH, aQ, au]; (repeat refine And.intro (by first | omega | assumption | exact rfl | exact hkX | exact hkY) ?_); (try refine .inl ?_); apply k0; clear k0; simp only [zP, V])
 refine ao ?_
 apply k10; clear k10; refine kp [2, 3, 4, 5, 20] ?_
 refine cd (fun hc11 => ?_) (fun hc11 => ?_)
 ·(try simp only [zB, reduceCtorEq] at hc11)
  refine ay ?_
  apply k9; clear k9; refine kp [2, 3, 4, 5, 20] ?_
  refine ah fun _ k12 => ?_
  refine aD ?_
  refine ah fun _ k13 => ?_
  refine j6 ?_; simp only [aN, List.append_assoc, b6]
  refine j6 ?_; simp only [aN, List.append_assoc, b6]
  refine bu hP hN Try.mixed rfl ?_
  iterate 10 (refine aj rfl fun _ k0 => ?_; simp only [zO, zT, acs, reduceCtorEq, aa, V, ad, ag, af, ae, ai, az, aH, aQ, au]; (repeat refine And.intro (by first | omega | assumption | exact rfl | exact hkX | exact hkY) ?_); (try refine .inl ?_); apply k0; clear k0; simp only [zP, V])
  (refine aj rfl fun _ k0 => ?_; simp only [zO, zT, acs, reduceCtorEq, aa, V, ad, ag, af, ae, ai, az, aH, aQ, au]; refine Or.inr (Or.inl ⟨2, ?_, ndT, nd0, ?_⟩); (exact rfl); (repeat refine And.intro (by first | rfl | decide) ?_); refine k0 _ ?_; clear k0; simp only [zP, V])
  (refine aj rfl fun _ k0 => ?_; simp only [zO, zT, acs, reduceCtorEq, aa, V, ad, ag, af, ae, ai, az, aH, aQ, au]; refine Or.inr (Or.inl ⟨3, ?_, ndT, nd0, ?_⟩); (exact rfl); (repeat refine And.intro (by first | rfl | decide) ?_); refine k0 _ ?_; clear k0; simp only [zP, V])
  iterate 2 (refine aj rfl fun _ k0 => ?_; simp only [zO, zT, acs, reduceCtorEq, aa, V, ad, ag, af, ae, ai, az, aH, aQ, au]; (repeat refine And.intro (by first | omega | assumption | exact rfl | exact hkX | exact hkY) ?_); (try refine .inl ?_); apply k0; clear k0; simp only [zP, V])
  refine ao ?_
  refine ⟨by kernel_rfl, ?_⟩
  apply k13; clear k13; refine kp [2, 3, 4, 5, 6, 7, 20] ?_
  refine ah fun _ k14 => ?_
  refine ah fun _ k15 => ?_
  have hil : i < T.length := by omega
  have hkm : (T.getD i nd0) ∈ T := by simp [List.getD, hil]
  have hkl := hK _ hkm
  refine am hP hN rfl ?_
  iterate 6 (refine aj rfl fun _ k0 => ?_; simp only [zO, zT, acs, reduceCtorEq, aa, V, ad, ag, af, ae, ai, az, aH, aQ, au]; (repeat refine And.intro (by first | omega | assumption | exact rfl | exact hkX | exact hkY) ?_); (try refine .inl ?_); apply k0; clear k0; simp only [zP, V])
  refine' aR (want := false) 6 rfl (m := 38) (by simp only [zP, aa, V]; exact rfl) (by kernel_rfl) rfl rfl rfl rfl rfl (fun hg16 => ?a16) ?b16 ?c16
  case a16 =>
   have hq16 := hg16; (try simp only [zB, reduceCtorEq] at hg16); simp only [zE]
   iterate 4 (refine bp rfl fun _ k0 => ?_; simp only [zO, zT, acs, reduceCtorEq, aa, V, ad, ag, af, ae, ai, az, aH, aQ, au]; (repeat refine And.intro (by first | omega | assumption | exact rfl | exact hkX | exact hkY) ?_); (try refine .inl ?_); apply k0; clear k0; simp only [zP, V])
   refine bp rfl fun _ k0 => ?_
   refine aK (h := aC (BL (T.getD i nd0).1 (U.getD i nd0).1)) rfl rfl (by first | exact rfl | (simp only [ev, zP, aa, V]; exact rfl)) (by simp only [zV, acs, reduceCtorEq, aa, V, ad, ag, af, ae, ai, az, aH, aQ, au]) ?_
   apply k0; clear k0; simp only [zP, V]
   (refine bp rfl fun _ k0 => ?_; simp only [zO, zT, acs, reduceCtorEq, aa, V, ad, ag, af, ae, ai, az, aH, aQ, au]; (repeat refine And.intro (by first | omega | assumption | exact rfl | exact hkX | exact hkY) ?_); (try refine .inl ?_); apply k0; clear k0; simp only [zP, V])
   (refine aj rfl fun _ k0 => ?_; simp only [zO, zT, acs, reduceCtorEq, aa, V, ad, ag, af, ae, ai, az, aH, aQ, au]; (repeat refine And.intro (by first | omega | assumption | exact rfl | exact hkX | exact hkY) ?_); (try refine .inl ?_); apply k0; clear k0; simp only [zP, V])
   refine ao ?_
   refine ⟨by simp only [zP, aa, V]; exact rfl, rfl, ?_, rfl⟩; (repeat refine aS rfl ?_); exact bB (by exact rfl) hq16
  case b16 => exact cD
  simp only [bh, aY]
  (refine aj rfl fun _ k0 => ?_; simp only [zO, zT, acs, reduceCtorEq, aa, V, ad, ag, af, ae, ai, az, aH, aQ, au]; (repeat refine And.intro (by first | omega | assumption | exact rfl | exact hkX | exact hkY) ?_); (try refine .inl ?_); apply k0; clear k0; simp only [zP, V])
  refine' aR (want := false) 7 rfl (m := 46) (by simp only [zP, aa, V]; exact rfl) (by kernel_rfl) rfl rfl rfl rfl rfl (fun hg17 => ?a17) ?b17 ?c17
  case a17 =>
   have hq17 := hg17; (try simp only [zB, reduceCtorEq] at hg17); simp only [zE]
   iterate 7 (refine bp rfl fun _ k0 => ?_; simp only [zO, zT, acs, reduceCtorEq, aa, V, ad, ag, af, ae, ai, az, aH, aQ, au]; (repeat refine And.intro (by first | omega | assumption | exact rfl | exact hkX | exact hkY) ?_); (try refine .inl ?_); apply k0; clear k0; simp only [zP, V])
   (refine aj rfl fun _ k0 => ?_; simp only [zO, zT, acs, reduceCtorEq, aa, V, ad, ag, af, ae, ai, az, aH, aQ, au]; (repeat refine And.intro (by first | omega | assumption | exact rfl | exact hkX | exact hkY) ?_); (try refine .inl ?_); apply k0; clear k0; simp only [zP, V])
   refine ao ?_
   refine ⟨by simp only [zP, aa, V]; exact rfl, rfl, ?_, rfl⟩; (repeat refine aS rfl ?_); exact bB (by exact rfl) hq17
  case b17 => exact cD
  simp only [bh, aY]
  refine ao ?_
  apply k15; clear k15; refine kp [2, 3, 4, 5, 6, 7, 20, 54] ?_
  refine cd (fun hc18 => ?_) (fun hc18 => ?_)
  ·(try simp only [zB, reduceCtorEq] at hc18)
   have hno : ¬ T = U := xH (i := i) (fun e => Or.elim hc18 (fun h9 => Or.elim h9 (fun h8 => h8 (by show (T.getD i nd0).2.1 = (U.getD i nd0).2.1; rw [e])) (fun h8 => h8 (by show (T.getD i nd0).1 = (U.getD i nd0).1; rw [e]))) (fun h9 => h9 (by show ((T.getD i nd0).2.2.1.length : Int) = ((U.getD i nd0).2.2.1.length : Int); rw [e])))
   refine ah fun _ k19 => ?_
   refine am hP hN rfl ?_
   (refine aj rfl fun _ k0 => ?_; simp only [zO, zT, acs, reduceCtorEq, aa, V, ad, ag, af, ae, ai, az, aH, aQ, au]; (repeat refine And.intro (by first | omega | assumption | exact rfl | exact hkX | exact hkY) ?_); (try refine .inl ?_); apply k0; clear k0; simp only [zP, V])
   refine ao ?_
   apply k19; clear k19; refine kp [2, 3, 4, 5, 6, 7, 20, 54] ?_
   refine aE ?_
   refine ⟨nr, _, rfl, ?_⟩; simp only [zF, zP, aa, V, ai, az, aH, aQ, au]
   refine VLE.of_eq ?_
   refine congrArg (fun b => AV.one (AC.bool b)) ?_
   symm
   first
   | exact decide_eq_false hno
   | exact decide_eq_true (mS hll (fun q hq => hu q (by omega)))
  (try simp only [zB, reduceCtorEq] at hc18)
  have hx1 : (T.getD i nd0).2.1 = (U.getD i nd0).2.1 := hc18.1.1
  have hx2 : (T.getD i nd0).1 = (U.getD i nd0).1 := hc18.1.2
  have hx3 : (T.getD i nd0).2.2.1.length = (U.getD i nd0).2.2.1.length := by have h9 : ((T.getD i nd0).2.2.1.length : Int) = ((U.getD i nd0).2.2.1.length : Int) := hc18.2; omega
  refine ay ?_
  apply k14; clear k14; refine kp [2, 3, 4, 5, 6, 7, 20, 54] ?_
  refine ah fun _ k20 => ?_
  refine am hP hN rfl ?_
  (refine aj rfl fun _ k0 => ?_; simp only [zO, zT, acs, reduceCtorEq, aa, V, ad, ag, af, ae, ai, az, aH, aQ, au]; (repeat refine And.intro (by first | omega | assumption | exact rfl | exact hkX | exact hkY) ?_); (try refine .inl ?_); apply k0; clear k0; simp only [zP, V])
  refine ao ?_
  apply k20; clear k20; refine kp [2, 3, 4, 5, 6, 7, 8, 20, 54] ?_
  refine aD ?_
  refine bn (fun n21 s21 => ∃ (j : Nat), (j ≤ (T.getD i nd0).2.2.1.length) ∧ (∀ q, q < j → (T.getD i nd0).2.2.1.getD q kd0 = (U.getD i nd0).2.2.1.getD q kd0) ∧ n21 = (T.getD i nd0).2.2.1.length - j ∧ s21 = { env := [(2, .one (.ptr 0 0 0 0)), (3, .one (.ptr 1 0 0 0)), (4, .one (.bool false)), (5, .one (.int .i64 (i : Int))), (6, .one (.ptr 2 1 0 0)), (7, .one (.ptr 3 1 0 0)), (8, .one (.int .i64 (j : Int))), (20, .one (.bool true))], L := [.vars 29 [.list ndT T], .vars 29 [.list ndT U], .row ndT 52 1 [(T.getD i nd0)], .row ndT 52 1 [(U.getD i nd0)]] }) ?_ ?_
  ·exact ⟨_, _, aA [2, 3, 4, 5, 6, 7, 8, 20], 0, Nat.zero_le _, fun q h => by omega, rfl, by rw [decide_eq_true (show (i : Int) < (T.length : Int) by omega)]; rfl⟩
  rintro n21 s21 ⟨j, hj, hqs, rfl, rfl⟩
  refine ah fun _ k22 => ?_
  refine ah fun _ k23 => ?_
  refine am hP hN rfl ?_
  iterate 5 (refine aj rfl fun _ k0 => ?_; simp only [zO, zT, acs, reduceCtorEq, aa, V, ad, ag, af, ae, ai, az, aH, aQ, au]; (repeat refine And.intro (by first | omega | assumption | exact rfl | exact hkX | exact hkY) ?_); (try refine .inl ?_); apply k0; clear k0; simp only [zP, V])
  refine ao ?_
  apply k23; clear k23; refine kp [2, 3, 4, 5, 6, 7, 8, 20, 59] ?_
  refine cd (fun hc24 => ?_) (fun hc24 => ?_)
  ·(try simp only [zB, reduceCtorEq] at hc24)
   have hjl9 : j < (T.getD i nd0).2.2.1.length := by have h9 : (j : Int) < ((T.getD i nd0).2.2.1.length : Int) := hc24; omega
   refine ay ?_
   apply k22; clear k22; refine kp [2, 3, 4, 5, 6, 7, 8, 20, 59] ?_
   refine ah fun _ k25 => ?_
   refine aD ?_
   refine ah fun _ k26 => ?_
   have hjl : j < (T.getD i nd0).2.2.1.length := hjl9
   have hkX : (0 : Int) ≤ (j : Int) ∧ (j : Int) < ((T.getD i nd0).2.2.1.length : Int) := by omega
   have hkY : (0 : Int) ≤ (j : Int) ∧ (j : Int) < ((U.getD i nd0).2.2.1.length : Int) := by omega
   refine bu hP hN Try.mixed rfl ?_
   iterate 11 (refine aj rfl fun _ k0 => ?_; simp only [zO, zT, acs, reduceCtorEq, aa, V, ad, ag, af, ae, ai, az, aH, aQ, au]; (repeat refine And.intro (by first | omega | assumption | exact rfl | exact hkX | exact hkY) ?_); (try refine .inl ?_); apply k0; clear k0; simp only [zP, V])
   refine ao ?_
   refine ⟨by kernel_rfl, ?_⟩
   apply k26; clear k26; refine kp [2, 3, 4, 5, 6, 7, 8, 20, 59, 72] ?_
   refine cd (fun hc27 => ?_) (fun hc27 => ?_)
   ·(try simp only [zB, reduceCtorEq] at hc27)
    have hno : ¬ T = U := xH (i := i) (fun e => by
      have e3 : (T.getD i nd0).2.2.1.getD j kd0 = (U.getD i nd0).2.2.1.getD j kd0 := by rw [e]
      rcases hc27 with h9 | h9
      · exact h9 (by show ((T.getD i nd0).2.2.1.getD j kd0).1 = ((U.getD i nd0).2.2.1.getD j kd0).1; rw [e3])
      · rcases h9 with h9 | h9
        · exact h9 (by show ((T.getD i nd0).2.2.1.getD j kd0).2.1 = ((U.getD i nd0).2.2.1.getD j kd0).2.1; rw [e3])
        · exact h9)
    refine ah fun _ k28 => ?_
    refine am hP hN rfl ?_
    (refine aj rfl fun _ k0 => ?_; simp only [zO, zT, acs, reduceCtorEq, aa, V, ad, ag, af, ae, ai, az, aH, aQ, au]; (repeat refine And.intro (by first | omega | assumption | exact rfl | exact hkX | exact hkY) ?_); (try refine .inl ?_); apply k0; clear k0; simp only [zP, V])
    refine ao ?_
    apply k28; clear k28; refine kp [2, 3, 4, 5, 6, 7, 8, 20, 59, 72] ?_
    refine aE ?_
    refine ⟨nr, _, rfl, ?_⟩; simp only [zF, zP, aa, V, ai, az, aH, aQ, au]
    refine VLE.of_eq ?_
    refine congrArg (fun b => AV.one (AC.bool b)) ?_
    symm
    first
    | exact decide_eq_false hno
    | exact decide_eq_true (mS hll (fun q hq => hu q (by omega)))
   (try simp only [zB, reduceCtorEq] at hc27)
   have hkk : (T.getD i nd0).2.2.1.getD j kd0 = (U.getD i nd0).2.2.1.getD j kd0 := Cu hc27.1 hc27.2.1
   refine ay ?_
   apply k25; clear k25; refine kp [2, 3, 4, 5, 6, 7, 8, 20, 59, 72] ?_
   refine am hP hN rfl ?_
   iterate 3 (refine aj rfl fun _ k0 => ?_; simp only [zO, zT, acs, reduceCtorEq, aa, V, ad, ag, af, ae, ai, az, aH, aQ, au]; (repeat refine And.intro (by first | omega | assumption | exact rfl | exact hkX | exact hkY) ?_); (try refine .inl ?_); apply k0; clear k0; simp only [zP, V])
   refine ao ?_
   refine ⟨_, _, ?_, aA [2, 3, 4, 5, 6, 7, 8, 20], j + 1, by omega, fun q h => ?_, rfl, rfl⟩
   · omega
   · by_cases e : q = j
     · rw [e]; exact hkk
     · exact hqs q (by omega)
  (try simp only [zB, reduceCtorEq] at hc24)
  have hje : (T.getD i nd0).2.2.1.length ≤ j := by have h9 : ((T.getD i nd0).2.2.1.length : Int) ≤ (j : Int) := hc24; omega
  have hxy : (T.getD i nd0) = (U.getD i nd0) := Ck hx1 hx2 (AY hx3 (fun q hq => hqs q (by omega)))
  refine aZ ?_
  apply k12; clear k12; refine kp [2, 3, 4, 5, 6, 7, 8, 20, 59] ?_
  refine dh [2, 3, 4, 5] ?_; simp only [cJ, lkp, zE, reduceCtorEq, aa]
  refine iJ (L1 := [_, _, _]) rfl hB rfl rfl ?_
  refine iJ (L1 := [_, _]) rfl hB rfl rfl ?_
  refine am hP hN rfl ?_
  iterate 3 (refine aj rfl fun _ k0 => ?_; simp only [zO, zT, acs, reduceCtorEq, aa, V, ad, ag, af, ae, ai, az, aH, aQ, au]; (repeat refine And.intro (by first | omega | assumption | exact rfl | exact hkX | exact hkY) ?_); (try refine .inl ?_); apply k0; clear k0; simp only [zP, V])
  refine ao ?_
  refine ⟨_, _, ?_, aA [2, 3, 4, 5], i + 1, by omega, fun q h => ?_, rfl, rfl⟩
  · omega
  · by_cases e : q = i
    · rw [e]; exact hxy
    · exact hu q (by omega)
 (try simp only [zB, reduceCtorEq] at hc11)
 have hie : ¬ i < T.length := by omega
 refine aZ ?_
 apply k6; clear k6; refine kp [2, 3, 4, 5, 20] ?_
 refine ah fun _ k29 => ?_
 refine am hP hN rfl ?_
 (refine aj rfl fun _ k0 => ?_; simp only [zO, zT, acs, reduceCtorEq, aa, V, ad, ag, af, ae, ai, az, aH, aQ, au]; (repeat refine And.intro (by first | omega | assumption | exact rfl | exact hkX | exact hkY) ?_); (try refine .inl ?_); apply k0; clear k0; simp only [zP, V])
 refine ao ?_
 apply k29; clear k29; refine kp [2, 3, 4, 5, 20] ?_
 refine aE ?_
 refine ⟨nr, _, rfl, ?_⟩; simp only [zF, zP, aa, V, ai, az, aH, aQ, au]
 refine VLE.of_eq ?_
 refine congrArg (fun b => AV.one (AC.bool b)) ?_
 symm
 first
 | exact decide_eq_false hno
 | exact decide_eq_true (mS hll (fun q hq => hu q (by omega)))
set_option maxHeartbeats 2000000 in
theorem xu  : cb Try.prog 10 [] (.one (.bool true)) := by
 refine aT Try.func10 rfl (by kernel_rfl) (Nat.le_of_ble_eq_true rfl) rfl fun C hP hN hB => ?_
 replace hN : C.N = 100 := hN
 simp only [bc, V]
 refine ah fun _ k1 => ?_
 refine am hP hN rfl ?_
 (refine aj rfl fun _ k0 => ?_; simp only [zO, zT, acs, reduceCtorEq, aa, V, ad, ag, af, ae, cz, cA]; (repeat refine an ?_); (try refine .inl ?_); apply k0; clear k0; simp only [zP, V])
 refine ao ?_
 apply k1; clear k1; refine kp [0] ?_
 refine ah fun _ k2 => ?_
 refine am hP hN rfl ?_
 iterate 11 (refine aj rfl fun _ k0 => ?_; simp only [zO, zT, acs, reduceCtorEq, aa, V, ad, ag, af, ae, cz, cA]; (repeat refine an ?_); (try refine .inl ?_); apply k0; clear k0; simp only [zP, V])
 refine ao ?_
 apply k2; clear k2; refine kp [0, 1] ?_
 refine ah fun _ k3 => ?_
 refine am hP hN rfl ?_
 (refine aj rfl fun _ k0 => ?_; simp only [zO, zT, acs, reduceCtorEq, aa, V, ad, ag, af, ae, cz, cA]; (repeat refine an ?_); (try refine .inl ?_); apply k0; clear k0; simp only [zP, V])
 refine aj rfl fun _ k0 => ?_
 refine aK (h := aC (na eE)) rfl rfl (by first | exact rfl | (simp only [ev, zP, aa, V]; exact rfl)) (by simp only [zV, acs, reduceCtorEq, aa, V, ad, ag, af, ae, cz, cA]) ?_
 apply k0; clear k0; simp only [zP, V]
 iterate 8 (refine aj rfl fun _ k0 => ?_; simp only [zO, zT, acs, reduceCtorEq, aa, V, ad, ag, af, ae, cz, cA]; (repeat refine an ?_); (try refine .inl ?_); apply k0; clear k0; simp only [zP, V])
 refine ao ?_
 apply k3; clear k3; refine kp [0, 1, 2, 3, 4] ?_
 refine ah fun _ k4 => ?_
 refine am hP hN rfl ?_
 iterate 20 (refine aj rfl fun _ k0 => ?_; simp only [zO, zT, acs, reduceCtorEq, aa, V, ad, ag, af, ae, cz, cA]; (repeat refine an ?_); (try refine .inl ?_); apply k0; clear k0; simp only [zP, V])
 refine ao ?_
 apply k4; clear k4; refine kp [0, 1, 2, 3, 4, 5] ?_
 refine ah fun _ k5 => ?_
 refine am hP hN rfl ?_
 iterate 2 (refine aj rfl fun _ k0 => ?_; simp only [zO, zT, acs, reduceCtorEq, aa, V, ad, ag, af, ae, cz, cA]; (repeat refine an ?_); (try refine .inl ?_); apply k0; clear k0; simp only [zP, V])
 refine aj rfl fun _ k0 => ?_
 refine aK (h := aC (uW eE iz (by decide) 0)) rfl rfl (by first | exact rfl | (simp only [ev, zP, aa, V]; exact rfl)) (by simp only [zV, acs, reduceCtorEq, aa, V, ad, ag, af, ae, cz, cA]) ?_
 apply k0; clear k0; simp only [zP, V]
 iterate 7 (refine aj rfl fun _ k0 => ?_; simp only [zO, zT, acs, reduceCtorEq, aa, V, ad, ag, af, ae, cz, cA]; (repeat refine an ?_); (try refine .inl ?_); apply k0; clear k0; simp only [zP, V])
 refine ao ?_
 apply k5; clear k5; refine kp [0, 1, 2, 3, 4, 5, 6, 7, 8] ?_
 refine ah fun _ k6 => ?_
 refine am hP hN rfl ?_
 (refine aj rfl fun _ k0 => ?_; simp only [zO, zT, acs, reduceCtorEq, aa, V, ad, ag, af, ae, cz, cA]; (repeat refine an ?_); (try refine .inl ?_); apply k0; clear k0; simp only [zP, V])
 refine aj rfl fun _ k0 => ?_
 refine aK (h := aC wL) rfl rfl (by first | exact rfl | (simp only [ev, zP, aa, V]; exact rfl)) (by simp only [zV, acs, reduceCtorEq, aa, V, ad, ag, af, ae, cz, cA]) ?_
 apply k0; clear k0; simp only [zP, V]
 iterate 8 (refine aj rfl fun _ k0 => ?_; simp only [zO, zT, acs, reduceCtorEq, aa, V, ad, ag, af, ae, cz, cA]; (repeat refine an ?_); (try refine .inl ?_); apply k0; clear k0; simp only [zP, V])
 refine ao ?_
 apply k6; clear k6; refine kp [0, 1, 2, 3, 4, 5, 6, 7, 8, 11] ?_
 refine ah fun _ k7 => ?_
 refine am hP hN rfl ?_
 iterate 3 (refine aj rfl fun _ k0 => ?_; simp only [zO, zT, acs, reduceCtorEq, aa, V, ad, ag, af, ae, cz, cA]; (repeat refine an ?_); (try refine .inl ?_); apply k0; clear k0; simp only [zP, V])
 refine' aR (want := true) 2 rfl (m := 60) (by simp only [zP, aa, V]; exact rfl) (by kernel_rfl) rfl rfl rfl rfl rfl (fun hg8 => ?a8) ?b8 ?c8
 case a8 =>
  have hq8 := hg8; (try simp only [zB, reduceCtorEq] at hg8); simp only [zE]
  iterate 2 (refine bp rfl fun _ k0 => ?_; simp only [zO, zT, acs, reduceCtorEq, aa, V, ad, ag, af, ae, cz, cA]; (repeat refine an ?_); (try refine .inl ?_); apply k0; clear k0; simp only [zP, V])
  (refine aj rfl fun _ k0 => ?_; simp only [zO, zT, acs, reduceCtorEq, aa, V, ad, ag, af, ae, cz, cA]; (repeat refine an ?_); (try refine .inl ?_); apply k0; clear k0; simp only [zP, V])
  refine ao ?_
  refine ⟨by simp only [zP, aa, V]; exact rfl, rfl, ?_, rfl⟩; (repeat refine aS rfl ?_); exact bB (by exact rfl) hq8
 case b8 => exact cD
 simp only [bh, aY]
 (refine aj rfl fun _ k0 => ?_; simp only [zO, zT, acs, reduceCtorEq, aa, V, ad, ag, af, ae, cz, cA]; (repeat refine an ?_); (try refine .inl ?_); apply k0; clear k0; simp only [zP, V])
 refine' aR (want := true) 2 rfl (m := 64) (by simp only [zP, aa, V]; exact rfl) (by kernel_rfl) rfl rfl rfl rfl rfl (fun hg9 => ?a9) ?b9 ?c9
 case a9 =>
  have hq9 := hg9; (try simp only [zB, reduceCtorEq] at hg9); simp only [zE]
  iterate 2 (refine bp rfl fun _ k0 => ?_; simp only [zO, zT, acs, reduceCtorEq, aa, V, ad, ag, af, ae, cz, cA]; (repeat refine an ?_); (try refine .inl ?_); apply k0; clear k0; simp only [zP, V])
  (refine aj rfl fun _ k0 => ?_; simp only [zO, zT, acs, reduceCtorEq, aa, V, ad, ag, af, ae, cz, cA]; (repeat refine an ?_); (try refine .inl ?_); apply k0; clear k0; simp only [zP, V])
  refine ao ?_
  refine ⟨by simp only [zP, aa, V]; exact rfl, rfl, ?_, rfl⟩; (repeat refine aS rfl ?_); exact bB (by exact rfl) hq9
 case b9 => exact cD
 simp only [bh, aY]
 (refine aj rfl fun _ k0 => ?_; simp only [zO, zT, acs, reduceCtorEq, aa, V, ad, ag, af, ae, cz, cA]; (repeat refine an ?_); (try refine .inl ?_); apply k0; clear k0; simp only [zP, V])
 refine' aR (want := true) 1 rfl (m := 68) (by simp only [zP, aa, V]; exact rfl) (by kernel_rfl) rfl rfl rfl rfl rfl (fun hg10 => ?a10) ?b10 ?c10
 case a10 =>
  have hq10 := hg10; (try simp only [zB, reduceCtorEq] at hg10); simp only [zE]
  (refine bp rfl fun _ k0 => ?_; simp only [zO, zT, acs, reduceCtorEq, aa, V, ad, ag, af, ae, cz, cA]; (repeat refine an ?_); (try refine .inl ?_); apply k0; clear k0; simp only [zP, V])
  (refine aj rfl fun _ k0 => ?_; simp only [zO, zT, acs, reduceCtorEq, aa, V, ad, ag, af, ae, cz, cA]; (repeat refine an ?_); (try refine .inl ?_); apply k0; clear k0; simp only [zP, V])
  refine ao ?_
  refine ⟨by simp only [zP, aa, V]; exact rfl, rfl, ?_, rfl⟩; (repeat refine aS rfl ?_); exact bB (by exact rfl) hq10
 case b10 => exact cD
 simp only [bh, aY]
 (refine aj rfl fun _ k0 => ?_; simp only [zO, zT, acs, reduceCtorEq, aa, V, ad, ag, af, ae, cz, cA]; (repeat refine an ?_); (try refine .inl ?_); apply k0; clear k0; simp only [zP, V])
 refine' aR (want := true) 3 rfl (m := 71) (by simp only [zP, aa, V]; exact rfl) (by kernel_rfl) rfl rfl rfl rfl rfl (fun hg11 => ?a11) ?b11 ?c11
 case a11 =>
  have hq11 := hg11; (try simp only [zB, reduceCtorEq] at hg11); simp only [zE]
  iterate 2 (refine bp rfl fun _ k0 => ?_; simp only [zO, zT, acs, reduceCtorEq, aa, V, ad, ag, af, ae, cz, cA]; (repeat refine an ?_); (try refine .inl ?_); apply k0; clear k0; simp only [zP, V])
  refine bp rfl fun _ k0 => ?_
  refine aK (h := aC (wc (iy eE) iz (by rw [rz]; decide) (by rw [rz]; decide))) rfl rfl (by first | exact rfl | (simp only [ev, zP, aa, V]; exact rfl)) (by simp only [zV, acs, reduceCtorEq, aa, V, ad, ag, af, ae, cz, cA]) ?_
  apply k0; clear k0; simp only [zP, V]
  (refine aj rfl fun _ k0 => ?_; simp only [zO, zT, acs, reduceCtorEq, aa, V, ad, ag, af, ae, cz, cA]; (repeat refine an ?_); (try refine .inl ?_); apply k0; clear k0; simp only [zP, V])
  refine ao ?_
  refine ⟨by simp only [zP, aa, V]; exact rfl, rfl, ?_, rfl⟩; (repeat refine aS rfl ?_); exact bB (by exact rfl) hq11
 case b11 => exact cD
 simp only [bh, aY]
 (refine aj rfl fun _ k0 => ?_; simp only [zO, zT, acs, reduceCtorEq, aa, V, ad, ag, af, ae, cz, cA]; (repeat refine an ?_); (try refine .inl ?_); apply k0; clear k0; simp only [zP, V])
 refine' aR (want := true) 3 rfl (m := 76) (by simp only [zP, aa, V]; exact rfl) (by kernel_rfl) rfl rfl rfl rfl rfl (fun hg12 => ?a12) ?b12 ?c12
 case a12 =>
  have hq12 := hg12; (try simp only [zB, reduceCtorEq] at hg12); simp only [zE]
  iterate 2 (refine bp rfl fun _ k0 => ?_; simp only [zO, zT, acs, reduceCtorEq, aa, V, ad, ag, af, ae, cz, cA]; (repeat refine an ?_); (try refine .inl ?_); apply k0; clear k0; simp only [zP, V])
  refine bp rfl fun _ k0 => ?_
  refine aK (h := aC (xi (if gI eE iz 0 = 0 then (iD eE iz 0).1 else []) [0, 0])) rfl rfl (by first | exact rfl | (simp only [ev, zP, aa, V]; exact rfl)) (by simp only [zV, acs, reduceCtorEq, aa, V, ad, ag, af, ae, cz, cA]) ?_
  apply k0; clear k0; simp only [zP, V]
  (refine aj rfl fun _ k0 => ?_; simp only [zO, zT, acs, reduceCtorEq, aa, V, ad, ag, af, ae, cz, cA]; (repeat refine an ?_); (try refine .inl ?_); apply k0; clear k0; simp only [zP, V])
  refine ao ?_
  refine ⟨by simp only [zP, aa, V]; exact rfl, rfl, ?_, rfl⟩; (repeat refine aS rfl ?_); exact bB (by exact rfl) hq12
 case b12 => exact cD
 simp only [bh, aY]
 (refine aj rfl fun _ k0 => ?_; simp only [zO, zT, acs, reduceCtorEq, aa, V, ad, ag, af, ae, cz, cA]; (repeat refine an ?_); (try refine .inl ?_); apply k0; clear k0; simp only [zP, V])
 refine' aR (want := true) 2 rfl (m := 81) (by simp only [zP, aa, V]; exact rfl) (by kernel_rfl) rfl rfl rfl rfl rfl (fun hg13 => ?a13) ?b13 ?c13
 case a13 =>
  have hq13 := hg13; (try simp only [zB, reduceCtorEq] at hg13); simp only [zE]
  iterate 2 (refine bp rfl fun _ k0 => ?_; simp only [zO, zT, acs, reduceCtorEq, aa, V, ad, ag, af, ae, cz, cA]; (repeat refine an ?_); (try refine .inl ?_); apply k0; clear k0; simp only [zP, V])
  (refine aj rfl fun _ k0 => ?_; simp only [zO, zT, acs, reduceCtorEq, aa, V, ad, ag, af, ae, cz, cA]; (repeat refine an ?_); (try refine .inl ?_); apply k0; clear k0; simp only [zP, V])
  refine ao ?_
  refine ⟨by simp only [zP, aa, V]; exact rfl, rfl, ?_, rfl⟩; (repeat refine aS rfl ?_); exact bB (by exact rfl) hq13
 case b13 => exact cD
 simp only [bh, aY]
 (refine aj rfl fun _ k0 => ?_; simp only [zO, zT, acs, reduceCtorEq, aa, V, ad, ag, af, ae, cz, cA]; (repeat refine an ?_); (try refine .inl ?_); apply k0; clear k0; simp only [zP, V])
 refine' aR (want := true) 3 rfl (m := 85) (by simp only [zP, aa, V]; exact rfl) (by kernel_rfl) rfl rfl rfl rfl rfl (fun hg14 => ?a14) ?b14 ?c14
 case a14 =>
  have hq14 := hg14; (try simp only [zB, reduceCtorEq] at hg14); simp only [zE]
  (refine bp rfl fun _ k0 => ?_; simp only [zO, zT, acs, reduceCtorEq, aa, V, ad, ag, af, ae, cz, cA]; (repeat refine an ?_); (try refine .inl ?_); apply k0; clear k0; simp only [zP, V])
  refine bp rfl fun _ k0 => ?_
  refine aK (h := aC (Bo (iy eE) (by rw [rz]; decide) (by rw [rz]; decide))) rfl rfl (by first | exact rfl | (simp only [ev, zP, aa, V]; exact rfl)) (by simp only [zV, acs, reduceCtorEq, aa, V, ad, ag, af, ae, cz, cA]) ?_
  apply k0; clear k0; simp only [zP, V]
  (refine bp rfl fun _ k0 => ?_; simp only [zO, zT, acs, reduceCtorEq, aa, V, ad, ag, af, ae, cz, cA]; (repeat refine an ?_); (try refine .inl ?_); apply k0; clear k0; simp only [zP, V])
  (refine aj rfl fun _ k0 => ?_; simp only [zO, zT, acs, reduceCtorEq, aa, V, ad, ag, af, ae, cz, cA]; (repeat refine an ?_); (try refine .inl ?_); apply k0; clear k0; simp only [zP, V])
  refine ao ?_
  refine ⟨by simp only [zP, aa, V]; exact rfl, rfl, ?_, rfl⟩; (repeat refine aS rfl ?_); exact bB (by exact rfl) hq14
 case b14 => exact cD
 simp only [bh, aY]
 (refine aj rfl fun _ k0 => ?_; simp only [zO, zT, acs, reduceCtorEq, aa, V, ad, ag, af, ae, cz, cA]; (repeat refine an ?_); (try refine .inl ?_); apply k0; clear k0; simp only [zP, V])
 refine' aR (want := true) 2 rfl (m := 90) (by simp only [zP, aa, V]; exact rfl) (by kernel_rfl) rfl rfl rfl rfl rfl (fun hg15 => ?a15) ?b15 ?c15
 case a15 =>
  have hq15 := hg15; (try simp only [zB, reduceCtorEq] at hg15); simp only [zE]
  (refine bp rfl fun _ k0 => ?_; simp only [zO, zT, acs, reduceCtorEq, aa, V, ad, ag, af, ae, cz, cA]; (repeat refine an ?_); (try refine .inl ?_); apply k0; clear k0; simp only [zP, V])
  refine bp rfl fun _ k0 => ?_
  refine aK (h := aC (xr (iy eE) (by rw [rz]; decide))) rfl rfl (by first | exact rfl | (simp only [ev, zP, aa, V]; exact rfl)) (by simp only [zV, acs, reduceCtorEq, aa, V, ad, ag, af, ae, cz, cA]) ?_
  apply k0; clear k0; simp only [zP, V]
  (refine aj rfl fun _ k0 => ?_; simp only [zO, zT, acs, reduceCtorEq, aa, V, ad, ag, af, ae, cz, cA]; (repeat refine an ?_); (try refine .inl ?_); apply k0; clear k0; simp only [zP, V])
  refine ao ?_
  refine ⟨by simp only [zP, aa, V]; exact rfl, rfl, ?_, rfl⟩; (repeat refine aS rfl ?_); exact bB (by exact rfl) hq15
 case b15 => exact cD
 simp only [bh, aY]
 (refine aj rfl fun _ k0 => ?_; simp only [zO, zT, acs, reduceCtorEq, aa, V, ad, ag, af, ae, cz, cA]; (repeat refine an ?_); (try refine .inl ?_); apply k0; clear k0; simp only [zP, V])
 refine' aR (want := true) 4 rfl (m := 94) (by simp only [zP, aa, V]; exact rfl) (by kernel_rfl) rfl rfl rfl rfl rfl (fun hg16 => ?a16) ?b16 ?c16
 case a16 =>
  have hq16 := hg16; (try simp only [zB, reduceCtorEq] at hg16); simp only [zE]
  iterate 2 (refine bp rfl fun _ k0 => ?_; simp only [zO, zT, acs, reduceCtorEq, aa, V, ad, ag, af, ae, cz, cA]; (repeat refine an ?_); (try refine .inl ?_); apply k0; clear k0; simp only [zP, V])
  refine bp rfl fun _ k0 => ?_
  refine aK (h := aC zq) rfl rfl (by first | exact rfl | (simp only [ev, zP, aa, V]; exact rfl)) (by simp only [zV, acs, reduceCtorEq, aa, V, ad, ag, af, ae, cz, cA]) ?_
  apply k0; clear k0; simp only [zP, V]
  (refine bp rfl fun _ k0 => ?_; simp only [zO, zT, acs, reduceCtorEq, aa, V, ad, ag, af, ae, cz, cA]; (repeat refine an ?_); (try refine .inl ?_); apply k0; clear k0; simp only [zP, V])
  (refine aj rfl fun _ k0 => ?_; simp only [zO, zT, acs, reduceCtorEq, aa, V, ad, ag, af, ae, cz, cA]; (repeat refine an ?_); (try refine .inl ?_); apply k0; clear k0; simp only [zP, V])
  refine ao ?_
  refine ⟨by simp only [zP, aa, V]; exact rfl, rfl, ?_, rfl⟩; (repeat refine aS rfl ?_); exact bB (by exact rfl) hq16
 case b16 => exact cD
 simp only [bh, aY]
 (refine aj rfl fun _ k0 => ?_; simp only [zO, zT, acs, reduceCtorEq, aa, V, ad, ag, af, ae, cz, cA]; (repeat refine an ?_); (try refine .inl ?_); apply k0; clear k0; simp only [zP, V])
 refine ao ?_
 apply k7; clear k7; refine kp [0, 1, 2, 3, 4, 5, 6, 7, 8, 11] ?_
 refine aE ?_
 refine ⟨nr, _, rfl, ?_⟩; simp only [zF, zP, aa, V, cz, cA]
 refine VLE.of_eq ?_
 refine congrArg (fun b => AV.one (AC.bool b)) ?_
 rw [rz, AZ, CY, Cf, if_pos rfl, if_pos rfl, D2, CD, Ce, decide_eq_false CN]
 decide
theorem Cl (a n : Int) : cb Try.prog 66 [.one (.int .i64 a), .one (.pat (.int .i64) n 0)] (.one (.bool (decide (a < 0) || decide (n ≤ a)))) := by
 refine aT Try.func66 rfl (by kernel_rfl) (Nat.le_of_ble_eq_true rfl) rfl fun C hP hN hB => ?_
 replace hN : C.N = 11 := hN
 simp only [bc, V]
 refine ah fun _ k1 => ?_
 refine am hP hN rfl ?_
 (refine aj rfl fun _ k0 => ?_; simp only [zO, zT, acs, reduceCtorEq, aa, V, ad, ag, af, ae]; (repeat refine an ?_); (try refine .inl ?_); apply k0; clear k0; simp only [zP, V])
 refine ao ?_
 apply k1; clear k1; refine kp [0, 1, 3] ?_
 refine ah fun _ k2 => ?_
 refine am hP hN rfl ?_
 iterate 3 (refine aj rfl fun _ k0 => ?_; simp only [zO, zT, acs, reduceCtorEq, aa, V, ad, ag, af, ae]; (repeat refine an ?_); (try refine .inl ?_); apply k0; clear k0; simp only [zP, V])
 refine' aR (want := false) 3 rfl (m := 6) (by simp only [zP, aa, V]; exact rfl) (by kernel_rfl) rfl rfl rfl rfl rfl (fun hg3 => ?a3) ?b3 ?c3
 case a3 =>
  have hq3 := hg3; (try simp only [zB, reduceCtorEq] at hg3); simp only [zE]
  iterate 3 (refine bp rfl fun _ k0 => ?_; simp only [zO, zT, acs, reduceCtorEq, aa, V, ad, ag, af, ae]; (repeat refine an ?_); (try refine .inl ?_); apply k0; clear k0; simp only [zP, V])
  (refine aj rfl fun _ k0 => ?_; simp only [zO, zT, acs, reduceCtorEq, aa, V, ad, ag, af, ae]; (repeat refine an ?_); (try refine .inl ?_); apply k0; clear k0; simp only [zP, V])
  refine ao ?_
  refine ⟨by simp only [zP, aa, V]; exact rfl, rfl, ?_, rfl⟩; (repeat refine aS rfl ?_); exact bB (by exact rfl) hq3
 case b3 => exact cD
 simp only [bh, aY]
 (refine aj rfl fun _ k0 => ?_; simp only [zO, zT, acs, reduceCtorEq, aa, V, ad, ag, af, ae]; (repeat refine an ?_); (try refine .inl ?_); apply k0; clear k0; simp only [zP, V])
 refine ao ?_
 apply k2; clear k2; refine kp [0, 1, 3] ?_
 refine aE ?_
 refine ⟨nr, _, rfl, ?_⟩; simp only [zF, zP, aa, V]
 refine VLE.of_eq ?_
 rfl
theorem Cr (w : List Int) (n : Int) (hw : w.length ≤ 1024) : cb Try.prog 79 [.one (.list (.int .i64) w), .one (.fn 66 [.pat (.int .i64) n])] (.one (.int .i64 (kf w n))) := by
 refine aT Try.func79 rfl (by kernel_rfl) (Nat.le_of_ble_eq_true rfl) rfl fun C hP hN hB => ?_
 replace hN : C.N = 19 := hN
 simp only [bc, V]
 refine ah fun _ k1 => ?_
 refine am hP hN rfl ?_
 (refine aj rfl fun _ k0 => ?_; simp only [zO, zT, acs, reduceCtorEq, aa, V, ad, ag, af, ae]; (repeat refine an ?_); (try refine .inl ?_); apply k0; clear k0; simp only [zP, V])
 refine ao ?_
 apply k1; clear k1; refine kp [0, 1, 4] ?_
 refine ah fun _ k2 => ?_
 refine ah fun _ k3 => ?_
 refine am hP hN rfl ?_
 iterate 3 (refine aj rfl fun _ k0 => ?_; simp only [zO, zT, acs, reduceCtorEq, aa, V, ad, ag, af, ae]; (repeat refine an ?_); (try refine .inl ?_); apply k0; clear k0; simp only [zP, V])
 refine ao ?_
 apply k3; clear k3; refine kp [0, 1, 4, 7, 8] ?_
 refine aD ?_
 refine bn (fun n4 s4 => ∃ (k : Nat), (k ≤ w.length) ∧ (∀ i, i < k → ¬ dA n (w.getD i 0)) ∧ n4 = w.length - k ∧ s4 = { env := [(0, .one (.list (.int .i64) w)), (1, .one (.fn 66 [.pat (.int .i64) n])), (7, .one (.int .i64 (w.length : Int))), (8, .one (.int .i64 (k : Int)))], L := [] }) ?_ ?_
 ·exact ⟨_, _, aA [0, 1, 7, 8], 0, Nat.zero_le _, fun i hi => by omega, rfl, rfl⟩
 rintro n4 s4 ⟨k, hk, hI, rfl, rfl⟩
 refine ah fun _ k5 => ?_
 refine am hP hN rfl ?_
 (refine aj rfl fun _ k0 => ?_; simp only [zO, zT, acs, reduceCtorEq, aa, V, ad, ag, af, ae]; (repeat refine an ?_); (try refine .inl ?_); apply k0; clear k0; simp only [zP, V])
 refine ao ?_
 apply k5; clear k5; refine kp [0, 1, 7, 8, 9] ?_
 refine ah fun _ k6 => ?_
 refine cd (fun hc7 => ?_) (fun hc7 => ?_)
 ·(try simp only [zB, reduceCtorEq] at hc7)
  refine ay ?_
  apply k6; clear k6; refine kp [0, 1, 7, 8, 9] ?_
  refine ah fun _ k8 => ?_
  refine aD ?_
  refine ah fun _ k9 => ?_
  refine am hP hN rfl ?_
  iterate 2 (refine aj rfl fun _ k0 => ?_; simp only [zO, zT, acs, reduceCtorEq, aa, V, ad, ag, af, ae]; (repeat refine an ?_); (try refine .inl ?_); apply k0; clear k0; simp only [zP, V])
  refine ao ?_
  apply k9; clear k9; refine kp [0, 1, 5, 7, 8, 9] ?_
  refine ah fun _ k10 => ?_
  refine am hP hN rfl ?_
  iterate 5 (refine aj rfl fun _ k0 => ?_; simp only [zO, zT, acs, reduceCtorEq, aa, V, ad, ag, af, ae]; (repeat refine an ?_); (try refine .inl ?_); apply k0; clear k0; simp only [zP, V])
  refine aj rfl fun _ k0 => ?_
  refine aK (h := aC (Cl (w.getD k 0) n)) rfl rfl (by first | exact rfl | (simp only [ev, zP, aa, V]; exact rfl)) (by simp only [zV, acs, reduceCtorEq, aa, V, ad, ag, af, ae]) ?_
  apply k0; clear k0; simp only [zP, V]
  refine ao ?_
  apply k10; clear k10; refine kp [0, 1, 5, 7, 8, 9, 16] ?_
  refine cd (fun hc11 => ?_) (fun hc11 => ?_)
  ·(try simp only [zB, reduceCtorEq] at hc11)
   refine ah fun _ k12 => ?_
   refine am hP hN rfl ?_
   iterate 2 (refine aj rfl fun _ k0 => ?_; simp only [zO, zT, acs, reduceCtorEq, aa, V, ad, ag, af, ae]; (repeat refine an ?_); (try refine .inl ?_); apply k0; clear k0; simp only [zP, V])
   refine ao ?_
   apply k12; clear k12; refine kp [0, 1, 4, 5, 7, 8, 9, 16] ?_
   refine aE ?_
   refine ⟨nr, _, rfl, ?_⟩; simp only [zF, zP, aa, V]
   refine VLE.of_eq ?_
   refine congrArg (fun n => AV.one (AC.int IntKind.i64 n)) ?_
   symm
   first
   | exact vt (by omega) hI (by unfold dA; omega)
   | exact lT fun i hi => hI i (by omega)
  (try simp only [zB, reduceCtorEq] at hc11)
  refine ay ?_
  apply k8; clear k8; refine kp [0, 1, 5, 7, 8, 9, 16] ?_
  refine am hP hN rfl ?_
  iterate 2 (refine aj rfl fun _ k0 => ?_; simp only [zO, zT, acs, reduceCtorEq, aa, V, ad, ag, af, ae]; (repeat refine an ?_); (try refine .inl ?_); apply k0; clear k0; simp only [zP, V])
  refine ao ?_
  refine ⟨_, _, ?_, aA [0, 1, 7, 8], k + 1, by omega, fun i hi => ?_, rfl, rfl⟩
  · omega
  · by_cases e : i = k
    · rw [e]; unfold dA; omega
    · exact hI i (by omega)
 (try simp only [zB, reduceCtorEq] at hc7)
 refine aZ ?_
 apply k2; clear k2; refine kp [0, 1, 7, 8, 9] ?_
 refine ah fun _ k13 => ?_
 refine am hP hN rfl ?_
 (refine aj rfl fun _ k0 => ?_; simp only [zO, zT, acs, reduceCtorEq, aa, V, ad, ag, af, ae]; (repeat refine an ?_); (try refine .inl ?_); apply k0; clear k0; simp only [zP, V])
 refine ao ?_
 apply k13; clear k13; refine kp [0, 1, 4, 7, 8, 9] ?_
 refine aE ?_
 refine ⟨nr, _, rfl, ?_⟩; simp only [zF, zP, aa, V]
 refine VLE.of_eq ?_
 refine congrArg (fun n => AV.one (AC.int IntKind.i64 n)) ?_
 symm
 first
 | exact vt (by omega) hI (by unfold dA; omega)
 | exact lT fun i hi => hI i (by omega)
theorem BS (w : List Int) (n : Int) (hw : w.length ≤ 1024) : cb Try.prog 65 [.one (.list (.int .i64) w), .one (.fn 66 [.pat (.int .i64) n])] (.one (.bool (decide (0 ≤ kf w n)))) := by
 refine aT Try.func65 rfl (by kernel_rfl) (Nat.le_of_ble_eq_true rfl) rfl fun C hP hN hB => ?_
 replace hN : C.N = 9 := hN
 simp only [bc, V]
 refine ah fun _ k1 => ?_
 refine am hP hN rfl ?_
 (refine aj rfl fun _ k0 => ?_; simp only [zO, zT, acs, reduceCtorEq, aa, V, ad, ag, af, ae]; (repeat refine an ?_); (try refine .inl ?_); apply k0; clear k0; simp only [zP, V])
 refine ao ?_
 apply k1; clear k1; refine kp [0, 1, 4] ?_
 refine ah fun _ k2 => ?_
 refine am hP hN rfl ?_
 iterate 2 (refine aj rfl fun _ k0 => ?_; simp only [zO, zT, acs, reduceCtorEq, aa, V, ad, ag, af, ae]; (repeat refine an ?_); (try refine .inl ?_); apply k0; clear k0; simp only [zP, V])
 refine aj rfl fun _ k0 => ?_
 refine aK (h := aC (Cr w n hw)) rfl rfl (by first | exact rfl | (simp only [ev, zP, aa, V]; exact rfl)) (by simp only [zV, acs, reduceCtorEq, aa, V, ad, ag, af, ae]) ?_
 apply k0; clear k0; simp only [zP, V]
 iterate 2 (refine aj rfl fun _ k0 => ?_; simp only [zO, zT, acs, reduceCtorEq, aa, V, ad, ag, af, ae]; (repeat refine an ?_); (try refine .inl ?_); apply k0; clear k0; simp only [zP, V])
 refine ao ?_
 apply k2; clear k2; refine kp [0, 1, 4] ?_
 refine aE ?_
 refine ⟨nr, _, rfl, ?_⟩; simp only [zF, zP, aa, V]
 refine VLE.of_eq ?_
 rfl
theorem Bu (n : Int) : cb Try.prog 64 [.one (.int .i64 n)] (.one (.bool (decide (1 ≤ n) && decide (n ≤ 1024)))) := by
 refine aT Try.func64 rfl (by kernel_rfl) (Nat.le_of_ble_eq_true rfl) rfl fun C hP hN hB => ?_
 replace hN : C.N = 9 := hN
 simp only [bc, V]
 refine ah fun _ k1 => ?_
 refine am hP hN rfl ?_
 (refine aj rfl fun _ k0 => ?_; simp only [zO, zT, acs, reduceCtorEq, aa, V, ad, ag, af, ae]; (repeat refine an ?_); (try refine .inl ?_); apply k0; clear k0; simp only [zP, V])
 refine ao ?_
 apply k1; clear k1; refine kp [0, 2] ?_
 refine ah fun _ k2 => ?_
 refine am hP hN rfl ?_
 iterate 3 (refine aj rfl fun _ k0 => ?_; simp only [zO, zT, acs, reduceCtorEq, aa, V, ad, ag, af, ae]; (repeat refine an ?_); (try refine .inl ?_); apply k0; clear k0; simp only [zP, V])
 refine' aR (want := true) 2 rfl (m := 5) (by simp only [zP, aa, V]; exact rfl) (by kernel_rfl) rfl rfl rfl rfl rfl (fun hg3 => ?a3) ?b3 ?c3
 case a3 =>
  have hq3 := hg3; (try simp only [zB, reduceCtorEq] at hg3); simp only [zE]
  iterate 2 (refine bp rfl fun _ k0 => ?_; simp only [zO, zT, acs, reduceCtorEq, aa, V, ad, ag, af, ae]; (repeat refine an ?_); (try refine .inl ?_); apply k0; clear k0; simp only [zP, V])
  (refine aj rfl fun _ k0 => ?_; simp only [zO, zT, acs, reduceCtorEq, aa, V, ad, ag, af, ae]; (repeat refine an ?_); (try refine .inl ?_); apply k0; clear k0; simp only [zP, V])
  refine ao ?_
  refine ⟨by simp only [zP, aa, V]; exact rfl, rfl, ?_, rfl⟩; (repeat refine aS rfl ?_); exact bB (by exact rfl) hq3
 case b3 => exact cD
 simp only [bh, aY]
 (refine aj rfl fun _ k0 => ?_; simp only [zO, zT, acs, reduceCtorEq, aa, V, ad, ag, af, ae]; (repeat refine an ?_); (try refine .inl ?_); apply k0; clear k0; simp only [zP, V])
 refine ao ?_
 apply k2; clear k2; refine kp [0, 2] ?_
 refine aE ?_
 refine ⟨nr, _, rfl, ?_⟩; simp only [zF, zP, aa, V]
 refine VLE.of_eq ?_
 rfl
theorem za (w : List Int) (n : Int) : cb Try.prog 46 [.one (.list (.int .i64) w), .one (.int .i64 n)] (.one (.int .i64 (cV w n))) := by
 refine aT Try.func46 rfl (by kernel_rfl) (Nat.le_of_ble_eq_true rfl) rfl fun C hP hN hB => ?_
 replace hN : C.N = 17 := hN
 simp only [bc, V]
 refine ah fun _ k1 => ?_
 refine am hP hN rfl ?_
 iterate 2 (refine aj rfl fun _ k0 => ?_; simp only [zO, zT, acs, reduceCtorEq, aa, V, ad, ag, af, ae]; (repeat refine an ?_); (try refine .inl ?_); apply k0; clear k0; simp only [zP, V])
 refine ao ?_
 apply k1; clear k1; refine kp [0, 1, 3, 4] ?_
 refine ah fun _ k2 => ?_
 refine aD ?_
 refine ah fun _ k3 => ?_
 refine am hP hN rfl ?_
 (refine aj rfl fun _ k0 => ?_; simp only [zO, zT, acs, reduceCtorEq, aa, V, ad, ag, af, ae]; (repeat refine an ?_); (try refine .inl ?_); apply k0; clear k0; simp only [zP, V])
 refine aj rfl fun _ k0 => ?_
 refine aK (h := aC (Bu n)) rfl rfl (by first | exact rfl | (simp only [ev, zP, aa, V]; exact rfl)) (by simp only [zV, acs, reduceCtorEq, aa, V, ad, ag, af, ae]) ?_
 apply k0; clear k0; simp only [zP, V]
 iterate 2 (refine aj rfl fun _ k0 => ?_; simp only [zO, zT, acs, reduceCtorEq, aa, V, ad, ag, af, ae]; (repeat refine an ?_); (try refine .inl ?_); apply k0; clear k0; simp only [zP, V])
 refine ao ?_
 apply k3; clear k3; refine kp [0, 1, 3, 4, 5] ?_
 refine cd (fun hc4 => ?_) (fun hc4 => ?_)
 ·(try simp only [zB, reduceCtorEq] at hc4)
  refine ah fun _ k5 => ?_
  refine am hP hN rfl ?_
  (refine aj rfl fun _ k0 => ?_; simp only [zO, zT, acs, reduceCtorEq, aa, V, ad, ag, af, ae]; (repeat refine an ?_); (try refine .inl ?_); apply k0; clear k0; simp only [zP, V])
  refine ao ?_
  apply k5; clear k5; refine kp [0, 1, 3, 4, 5] ?_
  refine aE ?_
  refine ⟨nr, _, rfl, ?_⟩; simp only [zF, zP, aa, V]
  refine VLE.of_eq ?_
  refine congrArg (fun n => AV.one (AC.int IntKind.i64 n)) ?_
  symm
  first
  | (unfold cV; rw [if_pos (by omega)]; done)
  | (unfold cV; rw [if_neg (by omega), if_pos (by omega)]; done)
  | exact jq (by omega) (by omega) (by omega) (by omega)
  | exact ik (by omega) (by omega) (by omega) (by omega)
 (try simp only [zB, reduceCtorEq] at hc4)
 refine ah fun _ k6 => ?_
 refine am hP hN rfl ?_
 iterate 4 (refine aj rfl fun _ k0 => ?_; simp only [zO, zT, acs, reduceCtorEq, aa, V, ad, ag, af, ae]; (repeat refine an ?_); (try refine .inl ?_); apply k0; clear k0; simp only [zP, V])
 refine ao ?_
 apply k6; clear k6; refine kp [0, 1, 3, 4, 5, 9] ?_
 refine cd (fun hc7 => ?_) (fun hc7 => ?_)
 ·(try simp only [zB, reduceCtorEq] at hc7)
  refine ah fun _ k8 => ?_
  refine am hP hN rfl ?_
  (refine aj rfl fun _ k0 => ?_; simp only [zO, zT, acs, reduceCtorEq, aa, V, ad, ag, af, ae]; (repeat refine an ?_); (try refine .inl ?_); apply k0; clear k0; simp only [zP, V])
  refine ao ?_
  apply k8; clear k8; refine kp [0, 1, 3, 4, 5, 9] ?_
  refine aE ?_
  refine ⟨nr, _, rfl, ?_⟩; simp only [zF, zP, aa, V]
  refine VLE.of_eq ?_
  refine congrArg (fun n => AV.one (AC.int IntKind.i64 n)) ?_
  symm
  first
  | (unfold cV; rw [if_pos (by omega)]; done)
  | (unfold cV; rw [if_neg (by omega), if_pos (by omega)]; done)
  | exact jq (by omega) (by omega) (by omega) (by omega)
  | exact ik (by omega) (by omega) (by omega) (by omega)
 (try simp only [zB, reduceCtorEq] at hc7)
 refine ah fun _ k9 => ?_
 refine wU 0 (.int .i64) rfl rfl ?_; simp only [aJ, bz, shV, if_true, cK]
 refine am hP hN rfl ?_
 (refine aj rfl fun _ k0 => ?_; simp only [zO, zT, acs, reduceCtorEq, aa, V, ad, ag, af, ae]; (repeat refine an ?_); (try refine .inl ?_); apply k0; clear k0; simp only [zP, V])
 (refine aj rfl fun _ k0 => ?_; simp only [zE, op1, ev, lkp, d7, ca, iN, jV, qY, reduceCtorEq, aa, V, ad, ag, af, ae, Try.el41, Try.td102, Try.td41]; (repeat refine an ?_); (try refine .inl ?_); apply k0; clear k0; simp only [zP, V])
 refine aj rfl fun _ k0 => ?_
 refine aK (h := aC (BS w n (by omega))) rfl rfl (by first | exact rfl | (simp only [ev, zP, aa, V]; exact rfl)) (by simp only [zV, acs, reduceCtorEq, aa, V, ad, ag, af, ae]) ?_
 apply k0; clear k0; simp only [zP, V]
 (refine aj rfl fun _ k0 => ?_; simp only [zO, zT, acs, reduceCtorEq, aa, V, ad, ag, af, ae]; (repeat refine an ?_); (try refine .inl ?_); apply k0; clear k0; simp only [zP, V])
 refine ao ?_
 apply k9; clear k9; refine kp [0, 1, 3, 4, 5, 9, 13] ?_
 refine cd (fun hc10 => ?_) (fun hc10 => ?_)
 ·(try simp only [zB, reduceCtorEq] at hc10)
  refine ah fun _ k11 => ?_
  refine am hP hN rfl ?_
  (refine aj rfl fun _ k0 => ?_; simp only [zO, zT, acs, reduceCtorEq, aa, V, ad, ag, af, ae]; (repeat refine an ?_); (try refine .inl ?_); apply k0; clear k0; simp only [zP, V])
  refine ao ?_
  apply k11; clear k11; refine kp [0, 1, 3, 4, 5, 9, 13] ?_
  refine aE ?_
  refine ⟨nr, _, rfl, ?_⟩; simp only [zF, zP, aa, V]
  refine VLE.of_eq ?_
  refine congrArg (fun n => AV.one (AC.int IntKind.i64 n)) ?_
  symm
  first
  | (unfold cV; rw [if_pos (by omega)]; done)
  | (unfold cV; rw [if_neg (by omega), if_pos (by omega)]; done)
  | exact jq (by omega) (by omega) (by omega) (by omega)
  | exact ik (by omega) (by omega) (by omega) (by omega)
 (try simp only [zB, reduceCtorEq] at hc10)
 refine ay ?_
 apply k2; clear k2; refine kp [0, 1, 3, 4, 5, 9, 13] ?_
 refine ah fun _ k12 => ?_
 refine am hP hN rfl ?_
 (refine aj rfl fun _ k0 => ?_; simp only [zO, zT, acs, reduceCtorEq, aa, V, ad, ag, af, ae]; (repeat refine an ?_); (try refine .inl ?_); apply k0; clear k0; simp only [zP, V])
 refine ao ?_
 apply k12; clear k12; refine kp [0, 1, 3, 4, 5, 9, 13] ?_
 refine aE ?_
 refine ⟨nr, _, rfl, ?_⟩; simp only [zF, zP, aa, V]
 refine VLE.of_eq ?_
 refine congrArg (fun n => AV.one (AC.int IntKind.i64 n)) ?_
 symm
 first
 | (unfold cV; rw [if_pos (by omega)]; done)
 | (unfold cV; rw [if_neg (by omega), if_pos (by omega)]; done)
 | exact jq (by omega) (by omega) (by omega) (by omega)
 | exact ik (by omega) (by omega) (by omega) (by omega)
theorem Bl (m : Mly) (s a : Int) (hm : MOK m) (h0 : 0 ≤ s) (hs : s < m.nx.length) (a0 : 0 ≤ a) (ha : a < m.inp) : cb Try.prog 67 [m.av, .one (.int .i64 s), .one (.int .i64 a)] (.tup [.one (.int .i64 (m.nxt s a)), .one (.int .i64 (m.out s a))]) := by
 have h1 := hm.rl s.toNat (by omega); have h2 := hm.ql s.toNat (by omega); have h3 := hm.ol
 refine aT Try.func67 rfl (by kernel_rfl) (Nat.le_of_ble_eq_true rfl) rfl fun C hP hN hB => ?_
 replace hN : C.N = 26 := hN
 simp only [bc, V]
 refine ah fun _ k1 => ?_
 refine am hP hN rfl ?_
 iterate 3 (refine aj rfl fun _ k0 => ?_; simp only [zO, zT, acs, reduceCtorEq, aa, V, ad, ag, af, ae, Mly.av]; (repeat refine an ?_); (try refine .inl ?_); apply k0; clear k0; simp only [zP, V])
 refine ao ?_
 apply k1; clear k1; refine kp [0, 1, 2, 3, 6, 7] ?_
 refine ah fun _ k2 => ?_
 refine bu hP hN Try.mixed rfl ?_
 iterate 20 (refine aj rfl fun _ k0 => ?_; simp only [zO, zT, acs, reduceCtorEq, aa, V, ad, ag, af, ae, Mly.av]; (repeat refine an ?_); (try refine .inl ?_); apply k0; clear k0; simp only [zP, V])
 refine ao ?_
 refine ⟨by kernel_rfl, ?_⟩
 apply k2; clear k2; refine kp [0, 1, 2, 3, 6, 7] ?_
 refine aE ?_
 refine ⟨nr, _, rfl, ?_⟩; simp only [zF, zP, aa, V, Mly.av]
 refine VLE.of_eq ?_
 rfl
theorem Cn (m : Mly) (s : Int) (w : List Int) (hs : SOK m s) (hw : WOK w m.inp) (L0 : List AO) (m0 : Nat) (hm0 : L0[m0]? = some (.vars 84 [.int .i64 m.inp, .int .i64 m.st, .list (.list (.int .i64)) m.nx, .list (.list (.int .i64)) m.ot, .int .i64 s])) : eO Try.prog L0 47 (List.map (mv1 m0) [.one (.ptr 0 0 0 0), .one (.list (.int .i64) w)]) { av := .one (.list (.int .i64) (m.go s w).2), upd := [(m0, .vars 84 [.int .i64 m.inp, .int .i64 m.st, .list (.list (.int .i64)) m.nx, .list (.list (.int .i64)) m.ot, .int .i64 (m.go s w).1])], fp := [m0] } := by
 refine lP Try.func47 rfl (by kernel_rfl) (Nat.le_of_ble_eq_true rfl) rfl rfl (fun C hP hN hB => ?_) L0 m0 hm0
 replace hN : C.N = 39 := hN
 simp only [bc, V]
 refine ah fun _ k1 => ?_
 refine am hP hN rfl ?_
 (refine aj rfl fun _ k0 => ?_; simp only [zO, zT, acs, reduceCtorEq, aa, V, ad, ag, af, ae, Mly.av]; (repeat refine an ?_); (try refine .inl ?_); apply k0; clear k0; simp only [zP, V])
 refine ao ?_
 apply k1; clear k1; refine kp [0, 1, 4] ?_
 refine ah fun _ k2 => ?_
 refine am hP hN rfl ?_
 (refine aj rfl fun _ k0 => ?_; simp only [zO, zT, acs, reduceCtorEq, aa, V, ad, ag, af, ae, Mly.av]; (repeat refine an ?_); (try refine .inl ?_); apply k0; clear k0; simp only [zP, V])
 refine ao ?_
 apply k2; clear k2; refine kp [0, 1, 4, 5] ?_
 refine ah fun _ k3 => ?_
 refine ah fun _ k4 => ?_
 refine am hP hN rfl ?_
 iterate 3 (refine aj rfl fun _ k0 => ?_; simp only [zO, zT, acs, reduceCtorEq, aa, V, ad, ag, af, ae, Mly.av]; (repeat refine an ?_); (try refine .inl ?_); apply k0; clear k0; simp only [zP, V])
 refine ao ?_
 apply k4; clear k4; refine kp [0, 1, 4, 5, 10, 11, 12] ?_
 refine aD ?_
 refine fP 5 (.int .i64) 3 (by decide) rfl ?_; simp only [ax, aI, aN, b6, Nat.zero_add, V]
 refine bn (fun n5 s5 => ∃ (k : Nat) (v : Nat), (k ≤ w.length) ∧ n5 = w.length - k ∧ s5 = { env := [(0, .one (.ptr 0 0 0 0)), (5, .one (.row 1 v)), (10, .one (.list (.int .i64) w)), (11, .one (.int .i64 (w.length : Int))), (12, .one (.int .i64 (k : Int)))], L := [.vars 84 [.int .i64 m.inp, .int .i64 m.st, .list (.list (.int .i64)) m.nx, .list (.list (.int .i64)) m.ot, .int .i64 (m.go s (w.take k)).1], .row (.int .i64) 3 v (m.go s (w.take k)).2] }) ?_ ?_
 ·exact ⟨_, _, aA [0, 5, 10, 11, 12], 0, 0, Nat.zero_le _, rfl, rfl⟩
 rintro n5 s5 ⟨k, v, hk, rfl, rfl⟩
 have hgo := Cs hs.ok hs.s0 hs.s1 hw k hk; have hlen := hw.len; have hgl := BK m s (w.take k); rw [List.length_take] at hgl
 refine ah fun _ k6 => ?_
 refine am hP hN rfl ?_
 (refine aj rfl fun _ k0 => ?_; simp only [zO, zT, acs, reduceCtorEq, aa, V, ad, ag, af, ae, Mly.av]; (repeat refine an ?_); (try refine .inl ?_); apply k0; clear k0; simp only [zP, V])
 refine ao ?_
 apply k6; clear k6; refine kp [0, 5, 10, 11, 12, 13] ?_
 refine ah fun _ k7 => ?_
 refine cd (fun hc8 => ?_) (fun hc8 => ?_)
 ·(try simp only [zB, reduceCtorEq] at hc8)
  refine ay ?_
  apply k7; clear k7; refine kp [0, 5, 10, 11, 12, 13] ?_
  refine ah fun _ k9 => ?_
  refine aD ?_
  refine ah fun _ k10 => ?_
  refine am hP hN rfl ?_
  iterate 3 (refine aj rfl fun _ k0 => ?_; simp only [zO, zT, acs, reduceCtorEq, aa, V, ad, ag, af, ae, Mly.av]; (repeat refine an ?_); (try refine .inl ?_); apply k0; clear k0; simp only [zP, V])
  refine ao ?_
  apply k10; clear k10; refine kp [0, 5, 7, 10, 11, 12, 13] ?_
  refine ah fun _ k11 => ?_
  refine bu hP hN Try.mixed rfl ?_
  iterate 9 (refine aj rfl fun _ k0 => ?_; simp only [zO, zT, acs, reduceCtorEq, aa, V, ad, ag, af, ae, Mly.av]; (repeat refine an ?_); (try refine .inl ?_); apply k0; clear k0; simp only [zP, V])
  refine aj rfl fun _ k0 => ?_
  refine aK (h := aC (Bl m (m.go s (w.take k)).1 (w.getD k 0) hs.ok hgo.1 hgo.2 (hw.sym k (by omega)).1 (hw.sym k (by omega)).2)) rfl rfl (by first | exact rfl | (simp only [ev, zP, aa, V]; exact rfl)) (by simp only [zV, acs, reduceCtorEq, aa, V, ad, ag, af, ae, Mly.av]) ?_
  apply k0; clear k0; simp only [zP, V]
  iterate 5 (refine aj rfl fun _ k0 => ?_; simp only [zO, zT, acs, reduceCtorEq, aa, V, ad, ag, af, ae, Mly.av]; (repeat refine an ?_); (try refine .inl ?_); apply k0; clear k0; simp only [zP, V])
  refine ao ?_
  refine ⟨by kernel_rfl, ?_⟩
  apply k11; clear k11; refine kp [0, 5, 7, 8, 9, 10, 11, 12, 13] ?_
  refine ah fun _ k12 => ?_
  refine am hP hN rfl ?_
  iterate 5 (refine aj rfl fun _ k0 => ?_; simp only [zO, zT, acs, reduceCtorEq, aa, V, ad, ag, af, ae, Mly.av]; (repeat refine an ?_); (try refine .inl ?_); apply k0; clear k0; simp only [zP, V])
  refine ao ?_
  apply k12; clear k12; refine kp [0, 5, 7, 8, 9, 10, 11, 12, 13] ?_
  refine am hP hN rfl ?_
  iterate 5 (refine aj rfl fun _ k0 => ?_; simp only [zO, zT, acs, reduceCtorEq, aa, V, ad, ag, af, ae, Mly.av]; (repeat refine an ?_); (try refine .inl ?_); apply k0; clear k0; simp only [zP, V])
  refine ao ?_
  apply k9; clear k9; refine kp [0, 5, 7, 8, 9, 10, 11, 12, 13] ?_
  refine am hP hN rfl ?_
  iterate 2 (refine aj rfl fun _ k0 => ?_; simp only [zO, zT, acs, reduceCtorEq, aa, V, ad, ag, af, ae, Mly.av]; (repeat refine an ?_); (try refine .inl ?_); apply k0; clear k0; simp only [zP, V])
  refine ao ?_
  refine ⟨_, _, ?_, aA [0, 5, 10, 11, 12], k + 1, v + 1, by omega, rfl, ?_⟩
  · omega
  · rw [mr m s (by omega)]; rfl
 (try simp only [zB, reduceCtorEq] at hc8)
 refine aZ ?_
 apply k3; clear k3; refine kp [0, 5, 10, 11, 12, 13] ?_
 refine ah fun _ k13 => ?_
 refine am hP hN rfl ?_
 iterate 2 (refine aj rfl fun _ k0 => ?_; simp only [zO, zT, acs, reduceCtorEq, aa, V, ad, ag, af, ae, Mly.av]; (repeat refine an ?_); (try refine .inl ?_); apply k0; clear k0; simp only [zP, V])
 refine ao ?_
 apply k13; clear k13; refine kp [0, 4, 5, 10, 11, 12, 13] ?_
 refine aE ?_
 refine ⟨by first | exact .inl rfl | exact .inr rfl, _, rfl, _, _, rfl, ?_, ?_⟩ <;> simp only [fzV, fz1, fzC, aJ, bz, zP, aa, V, Mly.av]
 all_goals (have htk : w.take k = w := by rw [show k = w.length by omega, aO])
 all_goals (rw [htk]; try simp)
theorem AP (m : Mly) (s : Int) : cb Try.prog 45 [m.av, .one (.int .i64 s)] (.one (.int .i64 (dF m s))) := by
 refine aT Try.func45 rfl (by kernel_rfl) (Nat.le_of_ble_eq_true rfl) rfl fun C hP hN hB => ?_
 replace hN : C.N = 20 := hN
 simp only [bc, V]
 refine ah fun _ k1 => ?_
 refine am hP hN rfl ?_
 iterate 2 (refine aj rfl fun _ k0 => ?_; simp only [zO, zT, acs, reduceCtorEq, aa, V, ad, ag, af, ae, Mly.av]; (repeat refine an ?_); (try refine .inl ?_); apply k0; clear k0; simp only [zP, V])
 refine ao ?_
 apply k1; clear k1; refine kp [0, 1, 2, 4] ?_
 refine ah fun _ k2 => ?_
 refine ah fun _ k3 => ?_
 refine am hP hN rfl ?_
 (refine aj rfl fun _ k0 => ?_; simp only [zO, zT, acs, reduceCtorEq, aa, V, ad, ag, af, ae, Mly.av]; (repeat refine an ?_); (try refine .inl ?_); apply k0; clear k0; simp only [zP, V])
 refine aj rfl fun _ k0 => ?_
 refine aK (h := aC (iu m)) rfl rfl (by first | exact rfl | (simp only [ev, zP, aa, V]; exact rfl)) (by simp only [zV, acs, reduceCtorEq, aa, V, ad, ag, af, ae, Mly.av]) ?_
 apply k0; clear k0; simp only [zP, V]
 (refine aj rfl fun _ k0 => ?_; simp only [zO, zT, acs, reduceCtorEq, aa, V, ad, ag, af, ae, Mly.av]; (repeat refine an ?_); (try refine .inl ?_); apply k0; clear k0; simp only [zP, V])
 refine ao ?_
 apply k3; clear k3; refine kp [0, 1, 2, 4, 5] ?_
 refine ah fun _ k4 => ?_
 refine am hP hN rfl ?_
 iterate 2 (refine aj rfl fun _ k0 => ?_; simp only [zO, zT, acs, reduceCtorEq, aa, V, ad, ag, af, ae, Mly.av]; (repeat refine an ?_); (try refine .inl ?_); apply k0; clear k0; simp only [zP, V])
 refine ao ?_
 apply k4; clear k4; refine kp [0, 1, 2, 4, 5, 9] ?_
 refine cd (fun hc5 => ?_) (fun hc5 => ?_)
 ·(try simp only [zB, reduceCtorEq] at hc5)
  refine ah fun _ k6 => ?_
  refine am hP hN rfl ?_
  iterate 2 (refine aj rfl fun _ k0 => ?_; simp only [zO, zT, acs, reduceCtorEq, aa, V, ad, ag, af, ae, Mly.av]; (repeat refine an ?_); (try refine .inl ?_); apply k0; clear k0; simp only [zP, V])
  refine ao ?_
  apply k6; clear k6; refine kp [0, 1, 2, 4, 5, 9] ?_
  refine aE ?_
  refine ⟨nr, _, rfl, ?_⟩; simp only [zF, zP, aa, V, Mly.av]
  refine VLE.of_eq ?_
  refine congrArg (fun n => AV.one (AC.int IntKind.i64 n)) ?_
  symm
  unfold dF
  first
  | (rw [if_pos (by omega)]; done)
  | (rw [if_neg (by omega), if_pos (by omega)]; done)
  | (rw [if_neg (by omega), if_neg (by omega)]; done)
 (try simp only [zB, reduceCtorEq] at hc5)
 refine ay ?_
 apply k2; clear k2; refine kp [0, 1, 2, 4, 5, 9] ?_
 refine ah fun _ k7 => ?_
 refine ah fun _ k8 => ?_
 refine am hP hN rfl ?_
 iterate 3 (refine aj rfl fun _ k0 => ?_; simp only [zO, zT, acs, reduceCtorEq, aa, V, ad, ag, af, ae, Mly.av]; (repeat refine an ?_); (try refine .inl ?_); apply k0; clear k0; simp only [zP, V])
 refine' aR (want := false) 5 rfl (m := 13) (by simp only [zP, aa, V]; exact rfl) (by kernel_rfl) rfl rfl rfl rfl rfl (fun hg9 => ?a9) ?b9 ?c9
 case a9 =>
  have hq9 := hg9; (try simp only [zB, reduceCtorEq] at hg9); simp only [zE]
  iterate 5 (refine bp rfl fun _ k0 => ?_; simp only [zO, zT, acs, reduceCtorEq, aa, V, ad, ag, af, ae, Mly.av]; (repeat refine an ?_); (try refine .inl ?_); apply k0; clear k0; simp only [zP, V])
  (refine aj rfl fun _ k0 => ?_; simp only [zO, zT, acs, reduceCtorEq, aa, V, ad, ag, af, ae, Mly.av]; (repeat refine an ?_); (try refine .inl ?_); apply k0; clear k0; simp only [zP, V])
  refine ao ?_
  refine ⟨by simp only [zP, aa, V]; exact rfl, rfl, ?_, rfl⟩; (repeat refine aS rfl ?_); exact bB (by exact rfl) hq9
 case b9 => exact cD
 simp only [bh, aY]
 refine ao ?_
 apply k8; clear k8; refine kp [0, 1, 2, 4, 5, 9, 19] ?_
 refine cd (fun hc10 => ?_) (fun hc10 => ?_)
 ·(try simp only [zB, reduceCtorEq] at hc10)
  refine ah fun _ k11 => ?_
  refine am hP hN rfl ?_
  (refine aj rfl fun _ k0 => ?_; simp only [zO, zT, acs, reduceCtorEq, aa, V, ad, ag, af, ae, Mly.av]; (repeat refine an ?_); (try refine .inl ?_); apply k0; clear k0; simp only [zP, V])
  refine ao ?_
  apply k11; clear k11; refine kp [0, 1, 2, 4, 5, 9, 19] ?_
  refine aE ?_
  refine ⟨nr, _, rfl, ?_⟩; simp only [zF, zP, aa, V, Mly.av]
  refine VLE.of_eq ?_
  refine congrArg (fun n => AV.one (AC.int IntKind.i64 n)) ?_
  symm
  unfold dF
  first
  | (rw [if_pos (by omega)]; done)
  | (rw [if_neg (by omega), if_pos (by omega)]; done)
  | (rw [if_neg (by omega), if_neg (by omega)]; done)
 (try simp only [zB, reduceCtorEq] at hc10)
 refine ay ?_
 apply k7; clear k7; refine kp [0, 1, 2, 4, 5, 9, 19] ?_
 refine ah fun _ k12 => ?_
 refine am hP hN rfl ?_
 (refine aj rfl fun _ k0 => ?_; simp only [zO, zT, acs, reduceCtorEq, aa, V, ad, ag, af, ae, Mly.av]; (repeat refine an ?_); (try refine .inl ?_); apply k0; clear k0; simp only [zP, V])
 refine ao ?_
 apply k12; clear k12; refine kp [0, 1, 2, 4, 5, 9, 19] ?_
 refine aE ?_
 refine ⟨nr, _, rfl, ?_⟩; simp only [zF, zP, aa, V, Mly.av]
 refine VLE.of_eq ?_
 refine congrArg (fun n => AV.one (AC.int IntKind.i64 n)) ?_
 symm
 unfold dF
 first
 | (rw [if_pos (by omega)]; done)
 | (rw [if_neg (by omega), if_pos (by omega)]; done)
 | (rw [if_neg (by omega), if_neg (by omega)]; done)
theorem Bh (m : Mly) (s : Int) (w : List Int) : cb Try.prog 28 [m.av, .one (.int .i64 s), .one (.list (.int .i64) w)] (.tup [.one (.list (.int .i64) (dV m s w)), .one (.int .i64 (kC m s w)), .one (.int .i64 (fo m s w))]) := by
 refine aT Try.func28 rfl (by kernel_rfl) (Nat.le_of_ble_eq_true rfl) rfl fun C hP hN hB => ?_
 replace hN : C.N = 39 := hN
 simp only [bc, V]
 refine ah fun _ k1 => ?_
 refine am hP hN rfl ?_
 iterate 4 (refine aj rfl fun _ k0 => ?_; simp only [zO, zT, acs, reduceCtorEq, aa, V, ad, ag, af, ae, Mly.av]; (repeat refine an ?_); (try refine .inl ?_); apply k0; clear k0; simp only [zP, V])
 refine ao ?_
 apply k1; clear k1; refine kp [0, 1, 2, 3, 6, 7, 8] ?_
 refine ah fun _ k2 => ?_
 refine ah fun _ k3 => ?_
 refine am hP hN rfl ?_
 iterate 2 (refine aj rfl fun _ k0 => ?_; simp only [zO, zT, acs, reduceCtorEq, aa, V, ad, ag, af, ae, Mly.av]; (repeat refine an ?_); (try refine .inl ?_); apply k0; clear k0; simp only [zP, V])
 refine aj rfl fun _ k0 => ?_
 refine aK (h := aC (AP m s)) rfl rfl (by first | exact rfl | (simp only [ev, zP, aa, V]; exact rfl)) (by simp only [zV, acs, reduceCtorEq, aa, V, ad, ag, af, ae, Mly.av]) ?_
 apply k0; clear k0; simp only [zP, V]
 (refine aj rfl fun _ k0 => ?_; simp only [zO, zT, acs, reduceCtorEq, aa, V, ad, ag, af, ae, Mly.av]; (repeat refine an ?_); (try refine .inl ?_); apply k0; clear k0; simp only [zP, V])
 refine ao ?_
 apply k3; clear k3; refine kp [0, 1, 2, 3, 6, 7, 8, 9] ?_
 refine ah fun _ k4 => ?_
 refine am hP hN rfl ?_
 iterate 2 (refine aj rfl fun _ k0 => ?_; simp only [zO, zT, acs, reduceCtorEq, aa, V, ad, ag, af, ae, Mly.av]; (repeat refine an ?_); (try refine .inl ?_); apply k0; clear k0; simp only [zP, V])
 refine ao ?_
 apply k4; clear k4; refine kp [0, 1, 2, 3, 6, 7, 8, 9, 17] ?_
 refine cd (fun hc5 => ?_) (fun hc5 => ?_)
 ·(try simp only [zB, reduceCtorEq] at hc5)
  refine ah fun _ k6 => ?_
  refine am hP hN rfl ?_
  iterate 4 (refine aj rfl fun _ k0 => ?_; simp only [zO, zT, acs, reduceCtorEq, aa, V, ad, ag, af, ae, Mly.av]; (repeat refine an ?_); (try refine .inl ?_); apply k0; clear k0; simp only [zP, V])
  refine ao ?_
  apply k6; clear k6; refine kp [0, 1, 2, 3, 6, 7, 8, 9, 17] ?_
  refine aE ?_
  refine ⟨nr, _, rfl, ?_⟩; simp only [zF, zP, aa, V, Mly.av]
  first
  | (have hE := jC (w := w) ‹¬dF m s = 0›
     unfold dV kC; rw [hE, if_neg ‹¬dF m s = 0›, if_neg ‹¬dF m s = 0›]
     exact bE ⟨aF (bo rfl), aF (.refl _), aF (.refl _), trivial⟩)
  | (have hE := kr (w := w) ‹dF m s = 0›
     unfold dV kC; rw [hE]
     first
     | (rw [if_neg ‹¬cV w m.inp = 0›, if_neg ‹¬cV w m.inp = 0›]
        exact bE ⟨aF (bo rfl), aF (.refl _), aF (.refl _), trivial⟩)
     | (rw [‹cV w m.inp = 0›, if_pos rfl, if_pos rfl]
        exact bE ⟨aF (.refl _), aF (.refl _), aF (.refl _), trivial⟩))
 (try simp only [zB, reduceCtorEq] at hc5)
 refine ay ?_
 apply k2; clear k2; refine kp [0, 1, 2, 3, 6, 7, 8, 9, 17] ?_
 refine ah fun _ k7 => ?_
 refine ah fun _ k8 => ?_
 refine am hP hN rfl ?_
 iterate 3 (refine aj rfl fun _ k0 => ?_; simp only [zO, zT, acs, reduceCtorEq, aa, V, ad, ag, af, ae, Mly.av]; (repeat refine an ?_); (try refine .inl ?_); apply k0; clear k0; simp only [zP, V])
 refine aj rfl fun _ k0 => ?_
 refine aK (h := aC (za w m.inp)) rfl rfl (by first | exact rfl | (simp only [ev, zP, aa, V]; exact rfl)) (by simp only [zV, acs, reduceCtorEq, aa, V, ad, ag, af, ae, Mly.av]) ?_
 apply k0; clear k0; simp only [zP, V]
 (refine aj rfl fun _ k0 => ?_; simp only [zO, zT, acs, reduceCtorEq, aa, V, ad, ag, af, ae, Mly.av]; (repeat refine an ?_); (try refine .inl ?_); apply k0; clear k0; simp only [zP, V])
 refine ao ?_
 apply k8; clear k8; refine kp [0, 1, 2, 3, 6, 7, 8, 9, 10, 17] ?_
 refine ah fun _ k9 => ?_
 refine am hP hN rfl ?_
 iterate 2 (refine aj rfl fun _ k0 => ?_; simp only [zO, zT, acs, reduceCtorEq, aa, V, ad, ag, af, ae, Mly.av]; (repeat refine an ?_); (try refine .inl ?_); apply k0; clear k0; simp only [zP, V])
 refine ao ?_
 apply k9; clear k9; refine kp [0, 1, 2, 3, 6, 7, 8, 9, 10, 17, 24] ?_
 refine cd (fun hc10 => ?_) (fun hc10 => ?_)
 ·(try simp only [zB, reduceCtorEq] at hc10)
  refine ah fun _ k11 => ?_
  refine am hP hN rfl ?_
  iterate 4 (refine aj rfl fun _ k0 => ?_; simp only [zO, zT, acs, reduceCtorEq, aa, V, ad, ag, af, ae, Mly.av]; (repeat refine an ?_); (try refine .inl ?_); apply k0; clear k0; simp only [zP, V])
  refine ao ?_
  apply k11; clear k11; refine kp [0, 1, 2, 3, 6, 7, 8, 9, 10, 17, 24] ?_
  refine aE ?_
  refine ⟨nr, _, rfl, ?_⟩; simp only [zF, zP, aa, V, Mly.av]
  first
  | (have hE := jC (w := w) ‹¬dF m s = 0›
     unfold dV kC; rw [hE, if_neg ‹¬dF m s = 0›, if_neg ‹¬dF m s = 0›]
     exact bE ⟨aF (bo rfl), aF (.refl _), aF (.refl _), trivial⟩)
  | (have hE := kr (w := w) ‹dF m s = 0›
     unfold dV kC; rw [hE]
     first
     | (rw [if_neg ‹¬cV w m.inp = 0›, if_neg ‹¬cV w m.inp = 0›]
        exact bE ⟨aF (bo rfl), aF (.refl _), aF (.refl _), trivial⟩)
     | (rw [‹cV w m.inp = 0›, if_pos rfl, if_pos rfl]
        exact bE ⟨aF (.refl _), aF (.refl _), aF (.refl _), trivial⟩))
 (try simp only [zB, reduceCtorEq] at hc10)
 refine ay ?_
 apply k7; clear k7; refine kp [0, 1, 2, 3, 6, 7, 8, 9, 10, 17, 24] ?_
 refine ah fun _ k12 => ?_
 refine am hP hN rfl ?_
 iterate 6 (refine aj rfl fun _ k0 => ?_; simp only [zO, zT, acs, reduceCtorEq, aa, V, ad, ag, af, ae, Mly.av]; (repeat refine an ?_); (try refine .inl ?_); apply k0; clear k0; simp only [zP, V])
 refine ao ?_
 apply k12; clear k12; refine kp [0, 1, 2, 3, 6, 7, 8, 9, 10, 11, 17, 24] ?_
 refine ah fun _ k13 => ?_
 refine am hP hN rfl ?_
 iterate 2 (refine aj rfl fun _ k0 => ?_; simp only [zO, zT, acs, reduceCtorEq, aa, V, ad, ag, af, ae, Mly.av]; (repeat refine an ?_); (try refine .inl ?_); apply k0; clear k0; simp only [zP, V])
 refine aj rfl fun _ k0 => ?_
 refine aK (h := Cn m s w (Bn (by first | assumption | omega)) (B6 (by first | assumption | omega)) _ 1 rfl) rfl rfl (by first | exact rfl | (simp only [ev, zP, aa, V]; exact rfl)) (by simp only [zV, acs, reduceCtorEq, aa, V, ad, ag, af, ae, Mly.av]) ?_
 apply k0; clear k0; simp only [zP, V]
 (refine aj rfl fun _ k0 => ?_; simp only [zO, zT, acs, reduceCtorEq, aa, V, ad, ag, af, ae, Mly.av]; (repeat refine an ?_); (try refine .inl ?_); apply k0; clear k0; simp only [zP, V])
 refine ao ?_
 apply k13; clear k13; refine kp [0, 1, 2, 3, 6, 7, 8, 9, 10, 11, 12, 17, 24] ?_
 refine ah fun _ k14 => ?_
 refine bu hP hN Try.mixed rfl ?_
 iterate 8 (refine aj rfl fun _ k0 => ?_; simp only [zO, zT, acs, reduceCtorEq, aa, V, ad, ag, af, ae, Mly.av]; (repeat refine an ?_); (try refine .inl ?_); apply k0; clear k0; simp only [zP, V])
 refine ao ?_
 refine ⟨by kernel_rfl, ?_⟩
 apply k14; clear k14; refine kp [0, 1, 2, 3, 6, 7, 8, 9, 10, 11, 12, 17, 24] ?_
 refine aE ?_
 refine ⟨nr, _, rfl, ?_⟩; simp only [zF, zP, aa, V, Mly.av]
 first
 | (have hE := jC (w := w) ‹¬dF m s = 0›
    unfold dV kC; rw [hE, if_neg ‹¬dF m s = 0›, if_neg ‹¬dF m s = 0›]
    exact bE ⟨aF (bo rfl), aF (.refl _), aF (.refl _), trivial⟩)
 | (have hE := kr (w := w) ‹dF m s = 0›
    unfold dV kC; rw [hE]
    first
    | (rw [if_neg ‹¬cV w m.inp = 0›, if_neg ‹¬cV w m.inp = 0›]
       exact bE ⟨aF (bo rfl), aF (.refl _), aF (.refl _), trivial⟩)
    | (rw [‹cV w m.inp = 0›, if_pos rfl, if_pos rfl]
       exact bE ⟨aF (.refl _), aF (.refl _), aF (.refl _), trivial⟩))
theorem wZ (m : Mly) (h : K12 m) : cb Try.prog 11 [m.av] (.tup [.agg [.list ndT (dt m)], .one (.bool (kA (dt m))), .one (.int .i64 0)]) := by
  have h1 := na m
  have h2 := xD h
  rw [(fa h2).1, (fa h2).2, h2] at h1; exact h1
theorem wM {m : Mly} (h : K12 m) : ∀ x ∈ dt m, x.2.2.1.length ≤ 1000000 := fun x hx => by
  have h1 := y3 (m := m) x
  rw [(fa (xD h)).1] at h1; exact h1 hx
theorem rR (m : Mly) (h : K12 m) (s : Int) (h0 : 0 ≤ s) (h1 : s < m.nx.length) : cb Try.prog 22 [m.av, .agg [.list ndT (dt m)], .one (.int .i64 s)] (.tup [.one (.list (.int .i64) (fv m s)), .one (.int .i64 (ki m s : Int)), .one (.int .i64 0)]) := by
  have h2 := uW m (dt m) (wM h) s
  rw [Co h h0 h1, if_pos rfl, if_pos rfl] at h2; exact h2
theorem uV (m : Mly) (h : K12 m) (s : Int) (h0 : 0 ≤ s ∧ s < m.nx.length) (w : List Int) (hw : dD m w) (hl : w.length ≤ 1024) : cb Try.prog 28 [m.av, .one (.int .i64 s), .one (.list (.int .i64) w)] (.tup [.one (.list (.int .i64) (m.go s w).2), .one (.int .i64 (m.go s w).1), .one (.int .i64 0)]) := by
  have h2 := Bh m s w
  have h3 := yx h h0 hw hl
  unfold dV kC at h2
  rw [h3, if_pos rfl, if_pos rfl] at h2; exact h2
set_option maxHeartbeats 1500000 in
theorem zN (m : Mly) (i : Nat) (hm : MOK m) : cb Try.prog 101 [m.av, .one (.list (.int .i64) (m.cls i))] (.one (.list (.int .i64) (m.cls (i + 1)))) := by
 have ol := hm.ol; have hi1 := hm.i1; have hi2 := hm.i2; have hn2 := hm.n2
 have hcl := kB m i
 have hnl := qs m (m.cls i)
 refine aT Try.func101 rfl (by kernel_rfl) (Nat.le_of_ble_eq_true rfl) rfl fun C hP hN hB => ?_
 replace hN : C.N = 99 := hN
 simp only [bc, V]
 refine ah fun _ k1 => ?_
 refine am hP hN rfl ?_
 iterate 2 (refine aj rfl fun _ k0 => ?_; simp only [zO, zT, acs, reduceCtorEq, aa, V, ad, ag, af, ae, Mly.av, ai]; (repeat refine an ?_); (try refine .inl ?_); apply k0; clear k0; simp only [zP, V])
 refine ao ?_
 apply k1; clear k1; refine kp [0, 1, 2, 4] ?_
 refine ah fun _ k2 => ?_
 refine am hP hN rfl ?_
 (refine aj rfl fun _ k0 => ?_; simp only [zO, zT, acs, reduceCtorEq, aa, V, ad, ag, af, ae, Mly.av, ai]; (repeat refine an ?_); (try refine .inl ?_); apply k0; clear k0; simp only [zP, V])
 refine ao ?_
 apply k2; clear k2; refine kp [0, 1, 2, 4, 5] ?_
 refine ah fun _ k3 => ?_
 refine am hP hN rfl ?_
 (refine aj rfl fun _ k0 => ?_; simp only [zO, zT, acs, reduceCtorEq, aa, V, ad, ag, af, ae, Mly.av, ai]; (repeat refine an ?_); (try refine .inl ?_); apply k0; clear k0; simp only [zP, V])
 refine ao ?_
 apply k3; clear k3; refine kp [0, 1, 2, 4, 5, 6] ?_
 refine ah fun _ k4 => ?_
 refine ah fun _ k5 => ?_
 refine am hP hN rfl ?_
 (refine aj rfl fun _ k0 => ?_; simp only [zO, zT, acs, reduceCtorEq, aa, V, ad, ag, af, ae, Mly.av, ai]; (repeat refine an ?_); (try refine .inl ?_); apply k0; clear k0; simp only [zP, V])
 refine ao ?_
 apply k5; clear k5; refine kp [0, 1, 2, 4, 5, 6, 7] ?_
 refine aD ?_
 refine fP 5 (.int .i64) 3 (by decide) rfl ?_; simp only [ax, aI, aN, b6, Nat.zero_add, V]
 refine bn (fun n6 s6 => ∃ (s : Nat) (v : Nat), (s ≤ m.nx.length) ∧ n6 = m.nx.length - s ∧ s6 = { env := [(1, .one (.list (.int .i64) (m.cls i))), (2, .one (.ptr 0 0 0 0)), (4, .one .nils), (5, .one (.row 1 v)), (6, .one (.int .i64 ((dj (m.sig (m.cls i)) s).length : Int))), (7, .one (.int .i64 (s : Int)))], L := [.vars 24 [.int .i64 m.inp, .int .i64 m.st, .list (.list (.int .i64)) m.nx, .list (.list (.int .i64)) m.ot], .row (.int .i64) 3 v ((m.nextL (m.cls i)).take s)] }) ?_ ?_
 ·exact ⟨_, _, aA [1, 2, 4, 5, 6, 7], 0, 0, Nat.zero_le _, rfl, rfl⟩
 rintro n6 s6 ⟨s, v, hs, rfl, rfl⟩
 refine ah fun _ k7 => ?_
 refine ah fun _ k8 => ?_
 refine am hP hN rfl ?_
 iterate 4 (refine aj rfl fun _ k0 => ?_; simp only [zO, zT, acs, reduceCtorEq, aa, V, ad, ag, af, ae, Mly.av, ai]; (repeat refine an ?_); (try refine .inl ?_); apply k0; clear k0; simp only [zP, V])
 refine ao ?_
 apply k8; clear k8; refine kp [1, 2, 4, 5, 6, 7, 15] ?_
 refine cd (fun hc9 => ?_) (fun hc9 => ?_)
 ·(try simp only [zB, reduceCtorEq] at hc9)
  refine ay ?_
  apply k7; clear k7; refine kp [1, 2, 4, 5, 6, 7, 15] ?_
  refine ah fun _ k10 => ?_
  refine aD ?_
  refine ah fun _ k11 => ?_
  have hsn : s < m.nx.length := by omega
  have hdl := m4 (m.sig (m.cls i)) s
  have htl : ((m.nextL (m.cls i)).take s).length = s := by rw [List.length_take]; omega
  refine am hP hN rfl ?_
  (refine aj rfl fun _ k0 => ?_; simp only [zO, zT, acs, reduceCtorEq, aa, V, ad, ag, af, ae, Mly.av, ai]; (repeat refine an ?_); (try refine .inl ?_); apply k0; clear k0; simp only [zP, V])
  refine ao ?_
  apply k11; clear k11; refine kp [1, 2, 4, 5, 6, 7, 8, 15] ?_
  refine ah fun _ k12 => ?_
  refine ah fun _ k13 => ?_
  refine am hP hN rfl ?_
  iterate 3 (refine aj rfl fun _ k0 => ?_; simp only [zO, zT, acs, reduceCtorEq, aa, V, ad, ag, af, ae, Mly.av, ai]; (repeat refine an ?_); (try refine .inl ?_); apply k0; clear k0; simp only [zP, V])
  refine ao ?_
  apply k13; clear k13; refine kp [1, 2, 4, 5, 6, 7, 8, 9, 15] ?_
  refine aD ?_
  refine bn (fun n14 s14 => ∃ (k : Nat) (fd : Int), (k ≤ s) ∧ (fnF m (m.cls i) s k fd) ∧ n14 = k + 1 ∧ s14 = { env := [(1, .one (.list (.int .i64) (m.cls i))), (2, .one (.ptr 0 0 0 0)), (4, .one .nils), (5, .one (.row 1 v)), (6, .one (.int .i64 ((dj (m.sig (m.cls i)) s).length : Int))), (7, .one (.int .i64 (s : Int))), (8, .one (.int .i64 fd)), (9, .one (.int .i64 ((k : Int) - 1))), (15, .one (.bool true))], L := [.vars 24 [.int .i64 m.inp, .int .i64 m.st, .list (.list (.int .i64)) m.nx, .list (.list (.int .i64)) m.ot], .row (.int .i64) 3 v ((m.nextL (m.cls i)).take s)] }) ?_ ?_
  ·refine ⟨_, _, aA [1, 2, 4, 5, 6, 7, 8, 9, 15], s, -1, Nat.le_refl _, .inl ⟨rfl, fun t h1 h2 => by omega⟩, rfl, ?_⟩
   rw [decide_eq_true (by omega)]; rfl
  rintro n14 s14 ⟨k, fd, hk, hfn, rfl, rfl⟩
  refine ah fun _ k15 => ?_
  refine ah fun _ k16 => ?_
  refine am hP hN rfl ?_
  iterate 2 (refine aj rfl fun _ k0 => ?_; simp only [zO, zT, acs, reduceCtorEq, aa, V, ad, ag, af, ae, Mly.av, ai]; (repeat refine an ?_); (try refine .inl ?_); apply k0; clear k0; simp only [zP, V])
  refine ao ?_
  apply k16; clear k16; refine kp [1, 2, 4, 5, 6, 7, 8, 9, 15, 21] ?_
  refine cd (fun hc17 => ?_) (fun hc17 => ?_)
  ·(try simp only [zB, reduceCtorEq] at hc17)
   refine ay ?_
   apply k15; clear k15; refine kp [1, 2, 4, 5, 6, 7, 8, 9, 15, 21] ?_
   refine ah fun _ k18 => ?_
   refine aD ?_
   refine ah fun _ k19 => ?_
   obtain ⟨t, rfl⟩ : ∃ t, k = t + 1 := ⟨k - 1, by omega⟩
   rw [show (((t + 1 : Nat) : Int) - 1) = (t : Int) by omega]
   have htn : t < m.nx.length := by omega
   refine bu hP hN Try.mixed rfl ?_
   iterate 10 (refine aj rfl fun _ k0 => ?_; simp only [zO, zT, acs, reduceCtorEq, aa, V, ad, ag, af, ae, Mly.av, ai]; (repeat refine an ?_); (try refine .inl ?_); apply k0; clear k0; simp only [zP, V])
   refine ao ?_
   refine ⟨by kernel_rfl, ?_⟩
   apply k19; clear k19; refine kp [1, 2, 4, 5, 6, 7, 8, 9, 10, 15, 21] ?_
   refine ah fun _ k20 => ?_
   refine ah fun _ k21 => ?_
   refine am hP hN rfl ?_
   (refine aj rfl fun _ k0 => ?_; simp only [zO, zT, acs, reduceCtorEq, aa, V, ad, ag, af, ae, Mly.av, ai]; (repeat refine an ?_); (try refine .inl ?_); apply k0; clear k0; simp only [zP, V])
   refine ao ?_
   apply k21; clear k21; refine kp [1, 2, 4, 5, 6, 7, 8, 9, 10, 11, 15, 21] ?_
   refine aD ?_
   refine bn (fun n22 s22 => ∃ (a : Nat) (sm : Bool), ((a : Int) ≤ m.inp) ∧ (sm = true ↔ smB m (m.cls i) s t a) ∧ n22 = m.inp.toNat - a ∧ s22 = { env := [(1, .one (.list (.int .i64) (m.cls i))), (2, .one (.ptr 0 0 0 0)), (4, .one .nils), (5, .one (.row 1 v)), (6, .one (.int .i64 ((dj (m.sig (m.cls i)) s).length : Int))), (7, .one (.int .i64 (s : Int))), (8, .one (.int .i64 fd)), (9, .one (.int .i64 (t : Int))), (10, .one (.bool sm)), (11, .one (.int .i64 (a : Int))), (15, .one (.bool true)), (21, .one (.bool true))], L := [.vars 24 [.int .i64 m.inp, .int .i64 m.st, .list (.list (.int .i64)) m.nx, .list (.list (.int .i64)) m.ot], .row (.int .i64) 3 v ((m.nextL (m.cls i)).take s)] }) ?_ ?_
   ·refine ⟨_, _, aA [1, 2, 4, 5, 6, 7, 8, 9, 10, 11, 15, 21], 0, decide ((m.cls i).getD s 0 = (m.cls i).getD t 0), by omega, by rw [decide_eq_true_eq]; exact ⟨fun h => ⟨h, fun b hb => by omega⟩, fun h => h.1⟩, rfl, ?_⟩
    rw [decide_eq_true (show (0 : Int) ≤ (t : Int) by omega)]; rfl
   rintro n22 s22 ⟨a, sm, ha, hsb, rfl, rfl⟩
   refine ah fun _ k23 => ?_
   refine ah fun _ k24 => ?_
   refine am hP hN rfl ?_
   iterate 5 (refine aj rfl fun _ k0 => ?_; simp only [zO, zT, acs, reduceCtorEq, aa, V, ad, ag, af, ae, Mly.av, ai]; (repeat refine an ?_); (try refine .inl ?_); apply k0; clear k0; simp only [zP, V])
   refine' aR (want := true) 1 rfl (m := 37) (by simp only [zP, aa, V]; exact rfl) (by kernel_rfl) rfl rfl rfl rfl rfl (fun hg25 => ?a25) ?b25 ?c25
   case a25 =>
    have hq25 := hg25; (try simp only [zB, reduceCtorEq] at hg25); simp only [zE]
    (refine bp rfl fun _ k0 => ?_; simp only [zO, zT, acs, reduceCtorEq, aa, V, ad, ag, af, ae, Mly.av, ai]; (repeat refine an ?_); (try refine .inl ?_); apply k0; clear k0; simp only [zP, V])
    (refine aj rfl fun _ k0 => ?_; simp only [zO, zT, acs, reduceCtorEq, aa, V, ad, ag, af, ae, Mly.av, ai]; (repeat refine an ?_); (try refine .inl ?_); apply k0; clear k0; simp only [zP, V])
    refine ao ?_
    refine ⟨by simp only [zP, aa, V]; exact rfl, rfl, ?_, rfl⟩; (repeat refine aS rfl ?_); exact bB (by exact rfl) hq25
   case b25 => exact cD
   simp only [bh, aY]
   refine ao ?_
   apply k24; clear k24; refine kp [1, 2, 4, 5, 6, 7, 8, 9, 10, 11, 15, 21, 39] ?_
   refine cd (fun hc26 => ?_) (fun hc26 => ?_)
   ·(try simp only [zB, reduceCtorEq] at hc26)
    have hy : (a : Int) < m.inp ∧ smB m (m.cls i) s t a := by
      have h9 : (a : Int) < m.inp ∧ sm = true := by simpa using hc26
      exact ⟨h9.1, hsb.1 h9.2⟩
    refine ay ?_
    apply k23; clear k23; refine kp [1, 2, 4, 5, 6, 7, 8, 9, 10, 11, 15, 21, 39] ?_
    refine ah fun _ k27 => ?_
    refine aD ?_
    have q1 := hm.rl s hsn; have q2 := hm.ql s hsn; have q3 := hm.rl t htn; have q4 := hm.ql t htn
    have n1 := hm.nr s a hsn (by omega)
    have n2 := hm.nr t a htn (by omega)
    refine bu hP hN Try.mixed rfl ?_
    iterate 18 (refine aj rfl fun _ k0 => ?_; simp only [zO, zT, acs, reduceCtorEq, aa, V, ad, ag, af, ae, Mly.av, ai]; (repeat refine an ?_); (try refine .inl ?_); apply k0; clear k0; simp only [zP, V])
    refine' aR (want := true) 23 rfl (m := 59) (by simp only [zP, aa, V]; exact rfl) (by kernel_rfl) rfl rfl rfl rfl rfl (fun hg28 => ?a28) ?b28 ?c28
    case a28 =>
     have hq28 := hg28; (try simp only [zB, reduceCtorEq] at hg28); simp only [zE]
     iterate 23 (refine bp rfl fun _ k0 => ?_; simp only [zO, zT, acs, reduceCtorEq, aa, V, ad, ag, af, ae, Mly.av, ai]; (repeat refine an ?_); (try refine .inl ?_); apply k0; clear k0; simp only [zP, V])
     (refine aj rfl fun _ k0 => ?_; simp only [zO, zT, acs, reduceCtorEq, aa, V, ad, ag, af, ae, Mly.av, ai]; (repeat refine an ?_); (try refine .inl ?_); apply k0; clear k0; simp only [zP, V])
     refine ao ?_
     refine ⟨by simp only [zP, aa, V]; exact rfl, rfl, ?_, rfl⟩; (repeat refine aS rfl ?_); exact bB (by exact rfl) hq28
    case b28 => exact cD
    simp only [bh, aY]
    (refine aj rfl fun _ k0 => ?_; simp only [zO, zT, acs, reduceCtorEq, aa, V, ad, ag, af, ae, Mly.av, ai]; (repeat refine an ?_); (try refine .inl ?_); apply k0; clear k0; simp only [zP, V])
    refine ao ?_
    refine ⟨by kernel_rfl, ?_⟩
    apply k27; clear k27; refine kp [1, 2, 4, 5, 6, 7, 8, 9, 10, 11, 15, 21, 39] ?_
    refine am hP hN rfl ?_
    iterate 3 (refine aj rfl fun _ k0 => ?_; simp only [zO, zT, acs, reduceCtorEq, aa, V, ad, ag, af, ae, Mly.av, ai]; (repeat refine an ?_); (try refine .inl ?_); apply k0; clear k0; simp only [zP, V])
    refine ao ?_
    refine ⟨_, _, ?_, aA [1, 2, 4, 5, 6, 7, 8, 9, 10, 11, 15, 21], a + 1, _, by omega, ?_, rfl, rfl⟩
    · omega
    · rw [yg hy.2]; simp
   (try simp only [zB, reduceCtorEq] at hc26)
   have hy : ¬ ((a : Int) < m.inp ∧ smB m (m.cls i) s t a) := by
     rintro ⟨h1, h2⟩
     have h3 := hsb.2 h2
     have h9 : m.inp ≤ (a : Int) ∨ sm = false := by simpa using hc26
     rcases h9 with h9 | h9
     · omega
     · rw [h3] at h9; cases h9
   refine aZ ?_
   apply k20; clear k20; refine kp [1, 2, 4, 5, 6, 7, 8, 9, 10, 11, 15, 21, 39] ?_
   refine ah fun _ k29 => ?_
   have hsm : smB m (m.cls i) s t m.inp.toNat ↔ m.sig (m.cls i) s = m.sig (m.cls i) t := AI hm hsn htn
   refine am hP hN rfl ?_
   (refine aj rfl fun _ k0 => ?_; simp only [zO, zT, acs, reduceCtorEq, aa, V, ad, ag, af, ae, Mly.av, ai]; (repeat refine an ?_); (try refine .inl ?_); apply k0; clear k0; simp only [zP, V])
   refine ao ?_
   apply k29; clear k29; refine kp [1, 2, 4, 5, 6, 7, 8, 9, 10, 11, 15, 21, 39, 84] ?_
   refine cd (fun hc30 => ?_) (fun hc30 => ?_)
   ·(try simp only [zB, reduceCtorEq] at hc30)
    have hy9 : smB m (m.cls i) s t a := hsb.1 hc30
    have hya : a = m.inp.toNat := by
      by_cases e : (a : Int) < m.inp
      · exact absurd ⟨e, hy9⟩ hy
      · omega
    have hsg := hsm.1 (hya ▸ hy9)
    have hfn2 := Be hsn (by omega) hsg
    have hgt : ((m.nextL (m.cls i)).take s).getD t 0 = (m.nextL (m.cls i)).getD t 0 := rm (by omega)
    refine am hP hN rfl ?_
    iterate 5 (refine aj rfl fun _ k0 => ?_; simp only [zO, zT, acs, reduceCtorEq, aa, V, ad, ag, af, ae, Mly.av, ai, htl]; (repeat refine an ?_); (try refine .inl ?_); apply k0; clear k0; simp only [zP, V])
    refine ao ?_
    apply k18; clear k18; refine kp [1, 2, 4, 5, 6, 7, 8, 9, 10, 11, 15, 21, 39, 84] ?_
    refine am hP hN rfl ?_
    iterate 3 (refine aj rfl fun _ k0 => ?_; simp only [zO, zT, acs, reduceCtorEq, aa, V, ad, ag, af, ae, Mly.av, ai]; (repeat refine an ?_); (try refine .inl ?_); apply k0; clear k0; simp only [zP, V])
    refine ao ?_
    first
    | (refine ⟨_, _, ?_, aA [1, 2, 4, 5, 6, 7, 8, 9, 15], t, _, by omega, hfn2, rfl, rfl⟩
       omega)
    | (refine ⟨_, _, ?_, aA [1, 2, 4, 5, 6, 7, 8, 9, 15], t, (m.nextL (m.cls i)).getD t 0, by omega, hfn2, rfl, ?_⟩
       · omega
       · rw [← hgt]; rfl)
   (try simp only [zB, reduceCtorEq] at hc30)
   have hy9 : ¬ smB m (m.cls i) s t a := fun h => by
     have h3 := hsb.2 h
     have h9 : sm = false := by simpa using hc30
     rw [h3] at h9; cases h9
   have hsg : ¬ m.sig (m.cls i) s = m.sig (m.cls i) t := fun h => yZ (by omega) hy9 (hsm.2 h)
   have hfn2 := CG hfn hsg
   refine ay ?_
   apply k18; clear k18; refine kp [1, 2, 4, 5, 6, 7, 8, 9, 10, 11, 15, 21, 39, 84] ?_
   refine am hP hN rfl ?_
   iterate 3 (refine aj rfl fun _ k0 => ?_; simp only [zO, zT, acs, reduceCtorEq, aa, V, ad, ag, af, ae, Mly.av, ai]; (repeat refine an ?_); (try refine .inl ?_); apply k0; clear k0; simp only [zP, V])
   refine ao ?_
   first
   | (refine ⟨_, _, ?_, aA [1, 2, 4, 5, 6, 7, 8, 9, 15], t, _, by omega, hfn2, rfl, rfl⟩
      omega)
   | (refine ⟨_, _, ?_, aA [1, 2, 4, 5, 6, 7, 8, 9, 15], t, (m.nextL (m.cls i)).getD t 0, by omega, hfn2, rfl, ?_⟩
      · omega
      · rw [← hgt]; rfl)
  (try simp only [zB, reduceCtorEq] at hc17)
  refine aZ ?_
  apply k12; clear k12; refine kp [1, 2, 4, 5, 6, 7, 8, 9, 15, 21] ?_
  refine ah fun _ k31 => ?_
  refine ah fun _ k32 => ?_
  have hk0 : k = 0 := by omega
  subst hk0
  refine am hP hN rfl ?_
  iterate 2 (refine aj rfl fun _ k0 => ?_; simp only [zO, zT, acs, reduceCtorEq, aa, V, ad, ag, af, ae, Mly.av, ai]; (repeat refine an ?_); (try refine .inl ?_); apply k0; clear k0; simp only [zP, V])
  refine ao ?_
  apply k32; clear k32; refine kp [1, 2, 4, 5, 6, 7, 8, 9, 15, 21, 90] ?_
  refine cd (fun hc33 => ?_) (fun hc33 => ?_)
  ·(try simp only [zB, reduceCtorEq] at hc33)
   have hnew := BQ hsn hfn (by omega)
   refine ah fun _ k34 => ?_
   refine am hP hN rfl ?_
   iterate 2 (refine aj rfl fun _ k0 => ?_; simp only [zO, zT, acs, reduceCtorEq, aa, V, ad, ag, af, ae, Mly.av, ai]; (repeat refine an ?_); (try refine .inl ?_); apply k0; clear k0; simp only [zP, V])
   refine ao ?_
   apply k34; clear k34; refine kp [1, 2, 4, 5, 6, 7, 8, 9, 15, 21, 90] ?_
   refine am hP hN rfl ?_
   iterate 3 (refine aj rfl fun _ k0 => ?_; simp only [zO, zT, acs, reduceCtorEq, aa, V, ad, ag, af, ae, Mly.av, ai]; (repeat refine an ?_); (try refine .inl ?_); apply k0; clear k0; simp only [zP, V])
   refine ao ?_
   apply k31; clear k31; refine kp [1, 2, 4, 5, 6, 7, 8, 9, 15, 21, 90] ?_
   have hnr := jx (m := m) (cl := (m.cls i)) hsn
   refine am hP hN rfl ?_
   iterate 5 (refine aj rfl fun _ k0 => ?_; simp only [zO, zT, acs, reduceCtorEq, aa, V, ad, ag, af, ae, Mly.av, ai]; (repeat refine an ?_); (try refine .inl ?_); apply k0; clear k0; simp only [zP, V])
   refine ao ?_
   apply k10; clear k10; refine kp [1, 2, 4, 5, 6, 7, 8, 9, 15, 21, 90] ?_
   refine am hP hN rfl ?_
   iterate 3 (refine aj rfl fun _ k0 => ?_; simp only [zO, zT, acs, reduceCtorEq, aa, V, ad, ag, af, ae, Mly.av, ai]; (repeat refine an ?_); (try refine .inl ?_); apply k0; clear k0; simp only [zP, V])
   refine ao ?_
   first
   | (refine ⟨_, _, ?_, aA [1, 2, 4, 5, 6, 7], s + 1, v + 1, by omega, rfl, ?_⟩
      · omega
      · rw [dc (by omega), hnew.1, hnew.2]; rfl)
   | (refine ⟨_, _, ?_, aA [1, 2, 4, 5, 6, 7], s + 1, v + 1, by omega, rfl, ?_⟩
      · omega
      · rw [dc (by omega), hold.1, hold.2]; rfl)
  (try simp only [zB, reduceCtorEq] at hc33)
  have hold := C0 hfn (by omega)
  refine ay ?_
  apply k31; clear k31; refine kp [1, 2, 4, 5, 6, 7, 8, 9, 15, 21, 90] ?_
  have hnr := jx (m := m) (cl := (m.cls i)) hsn
  refine am hP hN rfl ?_
  iterate 5 (refine aj rfl fun _ k0 => ?_; simp only [zO, zT, acs, reduceCtorEq, aa, V, ad, ag, af, ae, Mly.av, ai]; (repeat refine an ?_); (try refine .inl ?_); apply k0; clear k0; simp only [zP, V])
  refine ao ?_
  apply k10; clear k10; refine kp [1, 2, 4, 5, 6, 7, 8, 9, 15, 21, 90] ?_
  refine am hP hN rfl ?_
  iterate 3 (refine aj rfl fun _ k0 => ?_; simp only [zO, zT, acs, reduceCtorEq, aa, V, ad, ag, af, ae, Mly.av, ai]; (repeat refine an ?_); (try refine .inl ?_); apply k0; clear k0; simp only [zP, V])
  refine ao ?_
  first
  | (refine ⟨_, _, ?_, aA [1, 2, 4, 5, 6, 7], s + 1, v + 1, by omega, rfl, ?_⟩
     · omega
     · rw [dc (by omega), hnew.1, hnew.2]; rfl)
  | (refine ⟨_, _, ?_, aA [1, 2, 4, 5, 6, 7], s + 1, v + 1, by omega, rfl, ?_⟩
     · omega
     · rw [dc (by omega), hold.1, hold.2]; rfl)
 (try simp only [zB, reduceCtorEq] at hc9)
 refine aZ ?_
 apply k4; clear k4; refine kp [1, 2, 4, 5, 6, 7, 15] ?_
 refine ah fun _ k35 => ?_
 refine dn 1 rfl ?_; simp only [aJ, bz, zS, aa, and_self, and_true, true_and, and_false, false_and, if_true, if_false, eq_self, reduceCtorEq, Nat.one_ne_zero, Nat.zero_ne_one]
 have hse : s = m.nx.length := by omega
 rw [hse, ← hnl, aO]
 refine am hP hN rfl ?_
 iterate 2 (refine aj rfl fun _ k0 => ?_; simp only [zO, zT, acs, reduceCtorEq, aa, V, ad, ag, af, ae, Mly.av, ai]; (repeat refine an ?_); (try refine .inl ?_); apply k0; clear k0; simp only [zP, V])
 refine ao ?_
 apply k35; clear k35; refine kp [1, 2, 4, 5, 6, 7, 15] ?_
 refine aE ?_
 refine ⟨nr, _, rfl, ?_⟩; simp only [zF, zP, aa, V, Mly.av, ai]
 exact VLE.of_eq rfl
theorem BR (m : Mly) (s : Nat) (hi : m.inp ≤ 64) (hs : s < m.nx.length) (ho : m.ot.length = m.nx.length) : cb Try.prog 62 [m.av, .one (.int .i64 (s : Int))] (.one (.int .i64 (j8 m s))) := by
 refine aT Try.func62 rfl (by kernel_rfl) (Nat.le_of_ble_eq_true rfl) rfl fun C hP hN hB => ?_
 replace hN : C.N = 77 := hN
 simp only [bc, V]
 refine ah fun _ k1 => ?_
 refine am hP hN rfl ?_
 iterate 2 (refine aj rfl fun _ k0 => ?_; simp only [zO, zT, acs, reduceCtorEq, aa, V, ad, ag, af, ae, Mly.av]; (repeat refine an ?_); (try refine .inl ?_); apply k0; clear k0; simp only [zP, V])
 refine ao ?_
 apply k1; clear k1; refine kp [0, 1, 2, 4] ?_
 refine ah fun _ k2 => ?_
 refine ah fun _ k3 => ?_
 refine bu hP hN Try.mixed rfl ?_
 iterate 10 (refine aj rfl fun _ k0 => ?_; simp only [zO, zT, acs, reduceCtorEq, aa, V, ad, ag, af, ae, Mly.av]; (repeat refine an ?_); (try refine .inl ?_); apply k0; clear k0; simp only [zP, V])
 refine' aR (want := false) 9 rfl (m := 15) (by simp only [zP, aa, V]; exact rfl) (by kernel_rfl) rfl rfl rfl rfl rfl (fun hg4 => ?a4) ?b4 ?c4
 case a4 =>
  have hq4 := hg4; (try simp only [zB, reduceCtorEq] at hg4); simp only [zE]
  iterate 9 (refine bp rfl fun _ k0 => ?_; simp only [zO, zT, acs, reduceCtorEq, aa, V, ad, ag, af, ae, Mly.av]; (repeat refine an ?_); (try refine .inl ?_); apply k0; clear k0; simp only [zP, V])
  (refine aj rfl fun _ k0 => ?_; simp only [zO, zT, acs, reduceCtorEq, aa, V, ad, ag, af, ae, Mly.av]; (repeat refine an ?_); (try refine .inl ?_); apply k0; clear k0; simp only [zP, V])
  refine ao ?_
  refine ⟨by simp only [zP, aa, V]; exact rfl, rfl, ?_, rfl⟩; (repeat refine aS rfl ?_); exact bB (by exact rfl) hq4
 case b4 => exact cD
 simp only [bh, aY]
 refine ao ?_
 refine ⟨by kernel_rfl, ?_⟩
 apply k3; clear k3; refine kp [0, 1, 2, 4, 25] ?_
 refine cd (fun hc5 => ?_) (fun hc5 => ?_)
 ·(try simp only [zB, reduceCtorEq] at hc5)
  refine ah fun _ k6 => ?_
  refine am hP hN rfl ?_
  (refine aj rfl fun _ k0 => ?_; simp only [zO, zT, acs, reduceCtorEq, aa, V, ad, ag, af, ae, Mly.av]; (repeat refine an ?_); (try refine .inl ?_); apply k0; clear k0; simp only [zP, V])
  refine ao ?_
  apply k6; clear k6; refine kp [0, 1, 2, 4, 25] ?_
  refine aE ?_
  refine ⟨nr, _, rfl, ?_⟩; simp only [zF, zP, aa, V, Mly.av]
  refine VLE.of_eq ?_
  refine congrArg (fun n => AV.one (AC.int IntKind.i64 n)) ?_
  symm
  first
  | exact cZ hc5
  | exact cY hc5.1 hc5.2 (j := j) (by omega) (by unfold cj; omega)
  | exact mN hc5.1 hc5.2 fun a ha => hcells a (by omega)
 (try simp only [zB, reduceCtorEq] at hc5)
 refine ay ?_
 apply k2; clear k2; refine kp [0, 1, 2, 4, 25] ?_
 refine ah fun _ k7 => ?_
 refine ah fun _ k8 => ?_
 refine am hP hN rfl ?_
 (refine aj rfl fun _ k0 => ?_; simp only [zO, zT, acs, reduceCtorEq, aa, V, ad, ag, af, ae, Mly.av]; (repeat refine an ?_); (try refine .inl ?_); apply k0; clear k0; simp only [zP, V])
 refine ao ?_
 apply k8; clear k8; refine kp [0, 1, 2, 4, 5, 25] ?_
 refine aD ?_
 refine bn (fun n9 s9 => ∃ (j : Nat), (∀ a, a < j → ¬ cj m s a) ∧ (j ≤ m.inp.toNat) ∧ n9 = m.inp.toNat - j ∧ s9 = { env := [(1, .one (.int .i64 (s : Int))), (2, .one (.ptr 0 0 0 0)), (5, .one (.int .i64 (j : Int)))], L := [.vars 24 [.int .i64 m.inp, .int .i64 m.st, .list (.list (.int .i64)) m.nx, .list (.list (.int .i64)) m.ot]] }) ?_ ?_
 ·exact ⟨_, _, aA [1, 2, 5], 0, fun i hi => by omega, Nat.zero_le _, rfl, rfl⟩
 rintro n9 s9 ⟨j, hcells, hj, rfl, rfl⟩
 refine ah fun _ k10 => ?_
 refine ah fun _ k11 => ?_
 refine am hP hN rfl ?_
 iterate 4 (refine aj rfl fun _ k0 => ?_; simp only [zO, zT, acs, reduceCtorEq, aa, V, ad, ag, af, ae, Mly.av]; (repeat refine an ?_); (try refine .inl ?_); apply k0; clear k0; simp only [zP, V])
 refine ao ?_
 apply k11; clear k11; refine kp [1, 2, 5, 29] ?_
 refine cd (fun hc12 => ?_) (fun hc12 => ?_)
 ·(try simp only [zB, reduceCtorEq] at hc12)
  refine ay ?_
  apply k10; clear k10; refine kp [1, 2, 5, 29] ?_
  refine ah fun _ k13 => ?_
  refine aD ?_
  refine ah fun _ k14 => ?_
  refine bu hP hN Try.mixed rfl ?_
  iterate 10 (refine aj rfl fun _ k0 => ?_; simp only [zO, zT, acs, reduceCtorEq, aa, V, ad, ag, af, ae, Mly.av]; (repeat refine an ?_); (try refine .inl ?_); apply k0; clear k0; simp only [zP, V])
  refine' aR (want := false) 12 rfl (m := 41) (by simp only [zP, aa, V]; exact rfl) (by kernel_rfl) rfl rfl rfl rfl rfl (fun hg15 => ?a15) ?b15 ?c15
  case a15 =>
   have hq15 := hg15; (try simp only [zB, reduceCtorEq] at hg15); simp only [zE]
   iterate 12 (refine bp rfl fun _ k0 => ?_; simp only [zO, zT, acs, reduceCtorEq, aa, V, ad, ag, af, ae, Mly.av]; (repeat refine an ?_); (try refine .inl ?_); apply k0; clear k0; simp only [zP, V])
   (refine aj rfl fun _ k0 => ?_; simp only [zO, zT, acs, reduceCtorEq, aa, V, ad, ag, af, ae, Mly.av]; (repeat refine an ?_); (try refine .inl ?_); apply k0; clear k0; simp only [zP, V])
   refine ao ?_
   refine ⟨by simp only [zP, aa, V]; exact rfl, rfl, ?_, rfl⟩; (repeat refine aS rfl ?_); exact bB (by exact rfl) hq15
  case b15 => exact cD
  simp only [bh, aY]
  (refine aj rfl fun _ k0 => ?_; simp only [zO, zT, acs, reduceCtorEq, aa, V, ad, ag, af, ae, Mly.av]; (repeat refine an ?_); (try refine .inl ?_); apply k0; clear k0; simp only [zP, V])
  refine' aR (want := false) 9 rfl (m := 55) (by simp only [zP, aa, V]; exact rfl) (by kernel_rfl) rfl rfl rfl rfl rfl (fun hg16 => ?a16) ?b16 ?c16
  case a16 =>
   have hq16 := hg16; (try simp only [zB, reduceCtorEq] at hg16); simp only [zE]
   iterate 9 (refine bp rfl fun _ k0 => ?_; simp only [zO, zT, acs, reduceCtorEq, aa, V, ad, ag, af, ae, Mly.av]; (repeat refine an ?_); (try refine .inl ?_); apply k0; clear k0; simp only [zP, V])
   (refine aj rfl fun _ k0 => ?_; simp only [zO, zT, acs, reduceCtorEq, aa, V, ad, ag, af, ae, Mly.av]; (repeat refine an ?_); (try refine .inl ?_); apply k0; clear k0; simp only [zP, V])
   refine ao ?_
   refine ⟨by simp only [zP, aa, V]; exact rfl, rfl, ?_, rfl⟩; (repeat refine aS rfl ?_); exact bB (by exact rfl) hq16
  case b16 => exact cD
  simp only [bh, aY]
  (refine aj rfl fun _ k0 => ?_; simp only [zO, zT, acs, reduceCtorEq, aa, V, ad, ag, af, ae, Mly.av]; (repeat refine an ?_); (try refine .inl ?_); apply k0; clear k0; simp only [zP, V])
  refine' aR (want := false) 9 rfl (m := 66) (by simp only [zP, aa, V]; exact rfl) (by kernel_rfl) rfl rfl rfl rfl rfl (fun hg17 => ?a17) ?b17 ?c17
  case a17 =>
   have hq17 := hg17; (try simp only [zB, reduceCtorEq] at hg17); simp only [zE]
   iterate 9 (refine bp rfl fun _ k0 => ?_; simp only [zO, zT, acs, reduceCtorEq, aa, V, ad, ag, af, ae, Mly.av]; (repeat refine an ?_); (try refine .inl ?_); apply k0; clear k0; simp only [zP, V])
   (refine aj rfl fun _ k0 => ?_; simp only [zO, zT, acs, reduceCtorEq, aa, V, ad, ag, af, ae, Mly.av]; (repeat refine an ?_); (try refine .inl ?_); apply k0; clear k0; simp only [zP, V])
   refine ao ?_
   refine ⟨by simp only [zP, aa, V]; exact rfl, rfl, ?_, rfl⟩; (repeat refine aS rfl ?_); exact bB (by exact rfl) hq17
  case b17 => exact cD
  simp only [bh, aY]
  refine ao ?_
  refine ⟨by kernel_rfl, ?_⟩
  apply k14; clear k14; refine kp [1, 2, 5, 29, 76] ?_
  refine cd (fun hc18 => ?_) (fun hc18 => ?_)
  ·(try simp only [zB, reduceCtorEq] at hc18)
   refine ah fun _ k19 => ?_
   refine am hP hN rfl ?_
   (refine aj rfl fun _ k0 => ?_; simp only [zO, zT, acs, reduceCtorEq, aa, V, ad, ag, af, ae, Mly.av]; (repeat refine an ?_); (try refine .inl ?_); apply k0; clear k0; simp only [zP, V])
   refine ao ?_
   apply k19; clear k19; refine kp [1, 2, 4, 5, 29, 76] ?_
   refine aE ?_
   refine ⟨nr, _, rfl, ?_⟩; simp only [zF, zP, aa, V, Mly.av]
   refine VLE.of_eq ?_
   refine congrArg (fun n => AV.one (AC.int IntKind.i64 n)) ?_
   symm
   first
   | exact cZ hc5
   | exact cY hc5.1 hc5.2 (j := j) (by omega) (by unfold cj; omega)
   | exact mN hc5.1 hc5.2 fun a ha => hcells a (by omega)
  (try simp only [zB, reduceCtorEq] at hc18)
  refine ay ?_
  apply k13; clear k13; refine kp [1, 2, 5, 29, 76] ?_
  refine am hP hN rfl ?_
  iterate 3 (refine aj rfl fun _ k0 => ?_; simp only [zO, zT, acs, reduceCtorEq, aa, V, ad, ag, af, ae, Mly.av]; (repeat refine an ?_); (try refine .inl ?_); apply k0; clear k0; simp only [zP, V])
  refine ao ?_
  refine ⟨_, _, ?_, aA [1, 2, 5], j + 1, fun a ha => ?_, ?_, rfl, rfl⟩
  · omega
  · by_cases e : a = j
    · rw [e]; unfold cj; omega
    · exact hcells a (by omega)
  · omega
 (try simp only [zB, reduceCtorEq] at hc12)
 refine aZ ?_
 apply k7; clear k7; refine kp [1, 2, 5, 29] ?_
 refine ah fun _ k20 => ?_
 refine am hP hN rfl ?_
 (refine aj rfl fun _ k0 => ?_; simp only [zO, zT, acs, reduceCtorEq, aa, V, ad, ag, af, ae, Mly.av]; (repeat refine an ?_); (try refine .inl ?_); apply k0; clear k0; simp only [zP, V])
 refine ao ?_
 apply k20; clear k20; refine kp [1, 2, 4, 5, 29] ?_
 refine aE ?_
 refine ⟨nr, _, rfl, ?_⟩; simp only [zF, zP, aa, V, Mly.av]
 refine VLE.of_eq ?_
 refine congrArg (fun n => AV.one (AC.int IntKind.i64 n)) ?_
 symm
 first
 | exact cZ hc5
 | exact cY hc5.1 hc5.2 (j := j) (by omega) (by unfold cj; omega)
 | exact mN hc5.1 hc5.2 fun a ha => hcells a (by omega)
theorem ss (m : Mly) : cb Try.prog 43 [m.av] (.one (.int .i64 (aL m))) := by
 refine aT Try.func43 rfl (by kernel_rfl) (Nat.le_of_ble_eq_true rfl) rfl fun C hP hN hB => ?_
 replace hN : C.N = 52 := hN
 simp only [bc, V]
 refine ah fun _ k1 => ?_
 refine am hP hN rfl ?_
 iterate 2 (refine aj rfl fun _ k0 => ?_; simp only [zO, zT, acs, reduceCtorEq, aa, V, ad, ag, af, ae, Mly.av]; (repeat refine an ?_); (try refine .inl ?_); apply k0; clear k0; simp only [zP, V])
 refine ao ?_
 apply k1; clear k1; refine kp [0, 1, 2] ?_
 refine ah fun _ k2 => ?_
 refine ah fun _ k3 => ?_
 refine am hP hN rfl ?_
 iterate 4 (refine aj rfl fun _ k0 => ?_; simp only [zO, zT, acs, reduceCtorEq, aa, V, ad, ag, af, ae, Mly.av]; (repeat refine an ?_); (try refine .inl ?_); apply k0; clear k0; simp only [zP, V])
 refine' aR (want := false) 3 rfl (m := 8) (by simp only [zP, aa, V]; exact rfl) (by kernel_rfl) rfl rfl rfl rfl rfl (fun hg4 => ?a4) ?b4 ?c4
 case a4 =>
  have hq4 := hg4; (try simp only [zB, reduceCtorEq] at hg4); simp only [zE]
  iterate 3 (refine bp rfl fun _ k0 => ?_; simp only [zO, zT, acs, reduceCtorEq, aa, V, ad, ag, af, ae, Mly.av]; (repeat refine an ?_); (try refine .inl ?_); apply k0; clear k0; simp only [zP, V])
  (refine aj rfl fun _ k0 => ?_; simp only [zO, zT, acs, reduceCtorEq, aa, V, ad, ag, af, ae, Mly.av]; (repeat refine an ?_); (try refine .inl ?_); apply k0; clear k0; simp only [zP, V])
  refine ao ?_
  refine ⟨by simp only [zP, aa, V]; exact rfl, rfl, ?_, rfl⟩; (repeat refine aS rfl ?_); exact bB (by exact rfl) hq4
 case b4 => exact cD
 simp only [bh, aY]
 refine ao ?_
 apply k3; clear k3; refine kp [0, 1, 2, 12] ?_
 refine cd (fun hc5 => ?_) (fun hc5 => ?_)
 ·(try simp only [zB, reduceCtorEq] at hc5)
  refine ah fun _ k6 => ?_
  refine am hP hN rfl ?_
  (refine aj rfl fun _ k0 => ?_; simp only [zO, zT, acs, reduceCtorEq, aa, V, ad, ag, af, ae, Mly.av]; (repeat refine an ?_); (try refine .inl ?_); apply k0; clear k0; simp only [zP, V])
  refine ao ?_
  apply k6; clear k6; refine kp [0, 1, 2, 12] ?_
  refine aE ?_
  refine ⟨nr, _, rfl, ?_⟩; simp only [zF, zP, aa, V, Mly.av]
  refine VLE.of_eq ?_
  refine congrArg (fun n => AV.one (AC.int IntKind.i64 n)) ?_
  symm
  unfold aL
  first
  | (rw [if_pos (by omega)]; done)
  | (rw [if_neg (by omega), if_pos (by omega)]; done)
  | (rw [if_neg (by omega), if_neg (by omega), if_pos (by omega)]; done)
  | (rw [if_neg (by omega), if_neg (by omega), if_neg (by omega), if_pos (by omega)]; done)
  | (rw [if_neg (by omega), if_neg (by omega), if_neg (by omega), if_neg (by omega), if_pos (by omega)]; done)
  | (rw [if_neg (by omega), if_neg (by omega), if_neg (by omega), if_neg (by omega), if_neg (by omega)]
     first
     | exact cE hrows (by omega) (by assumption)
     | exact cH fun i hi => hrows i (by omega))
 (try simp only [zB, reduceCtorEq] at hc5)
 refine ay ?_
 apply k2; clear k2; refine kp [0, 1, 2, 12] ?_
 refine ah fun _ k7 => ?_
 refine ah fun _ k8 => ?_
 refine am hP hN rfl ?_
 iterate 4 (refine aj rfl fun _ k0 => ?_; simp only [zO, zT, acs, reduceCtorEq, aa, V, ad, ag, af, ae, Mly.av]; (repeat refine an ?_); (try refine .inl ?_); apply k0; clear k0; simp only [zP, V])
 refine ao ?_
 apply k8; clear k8; refine kp [0, 1, 2, 12, 16] ?_
 refine cd (fun hc9 => ?_) (fun hc9 => ?_)
 ·(try simp only [zB, reduceCtorEq] at hc9)
  refine ah fun _ k10 => ?_
  refine am hP hN rfl ?_
  (refine aj rfl fun _ k0 => ?_; simp only [zO, zT, acs, reduceCtorEq, aa, V, ad, ag, af, ae, Mly.av]; (repeat refine an ?_); (try refine .inl ?_); apply k0; clear k0; simp only [zP, V])
  refine ao ?_
  apply k10; clear k10; refine kp [0, 1, 2, 12, 16] ?_
  refine aE ?_
  refine ⟨nr, _, rfl, ?_⟩; simp only [zF, zP, aa, V, Mly.av]
  refine VLE.of_eq ?_
  refine congrArg (fun n => AV.one (AC.int IntKind.i64 n)) ?_
  symm
  unfold aL
  first
  | (rw [if_pos (by omega)]; done)
  | (rw [if_neg (by omega), if_pos (by omega)]; done)
  | (rw [if_neg (by omega), if_neg (by omega), if_pos (by omega)]; done)
  | (rw [if_neg (by omega), if_neg (by omega), if_neg (by omega), if_pos (by omega)]; done)
  | (rw [if_neg (by omega), if_neg (by omega), if_neg (by omega), if_neg (by omega), if_pos (by omega)]; done)
  | (rw [if_neg (by omega), if_neg (by omega), if_neg (by omega), if_neg (by omega), if_neg (by omega)]
     first
     | exact cE hrows (by omega) (by assumption)
     | exact cH fun i hi => hrows i (by omega))
 (try simp only [zB, reduceCtorEq] at hc9)
 refine ay ?_
 apply k7; clear k7; refine kp [0, 1, 2, 12, 16] ?_
 refine ah fun _ k11 => ?_
 refine ah fun _ k12 => ?_
 refine am hP hN rfl ?_
 iterate 4 (refine aj rfl fun _ k0 => ?_; simp only [zO, zT, acs, reduceCtorEq, aa, V, ad, ag, af, ae, Mly.av]; (repeat refine an ?_); (try refine .inl ?_); apply k0; clear k0; simp only [zP, V])
 refine ao ?_
 apply k12; clear k12; refine kp [0, 1, 2, 12, 16, 20] ?_
 refine cd (fun hc13 => ?_) (fun hc13 => ?_)
 ·(try simp only [zB, reduceCtorEq] at hc13)
  refine ah fun _ k14 => ?_
  refine am hP hN rfl ?_
  (refine aj rfl fun _ k0 => ?_; simp only [zO, zT, acs, reduceCtorEq, aa, V, ad, ag, af, ae, Mly.av]; (repeat refine an ?_); (try refine .inl ?_); apply k0; clear k0; simp only [zP, V])
  refine ao ?_
  apply k14; clear k14; refine kp [0, 1, 2, 12, 16, 20] ?_
  refine aE ?_
  refine ⟨nr, _, rfl, ?_⟩; simp only [zF, zP, aa, V, Mly.av]
  refine VLE.of_eq ?_
  refine congrArg (fun n => AV.one (AC.int IntKind.i64 n)) ?_
  symm
  unfold aL
  first
  | (rw [if_pos (by omega)]; done)
  | (rw [if_neg (by omega), if_pos (by omega)]; done)
  | (rw [if_neg (by omega), if_neg (by omega), if_pos (by omega)]; done)
  | (rw [if_neg (by omega), if_neg (by omega), if_neg (by omega), if_pos (by omega)]; done)
  | (rw [if_neg (by omega), if_neg (by omega), if_neg (by omega), if_neg (by omega), if_pos (by omega)]; done)
  | (rw [if_neg (by omega), if_neg (by omega), if_neg (by omega), if_neg (by omega), if_neg (by omega)]
     first
     | exact cE hrows (by omega) (by assumption)
     | exact cH fun i hi => hrows i (by omega))
 (try simp only [zB, reduceCtorEq] at hc13)
 refine ay ?_
 apply k11; clear k11; refine kp [0, 1, 2, 12, 16, 20] ?_
 refine ah fun _ k15 => ?_
 refine ah fun _ k16 => ?_
 refine am hP hN rfl ?_
 iterate 4 (refine aj rfl fun _ k0 => ?_; simp only [zO, zT, acs, reduceCtorEq, aa, V, ad, ag, af, ae, Mly.av]; (repeat refine an ?_); (try refine .inl ?_); apply k0; clear k0; simp only [zP, V])
 refine' aR (want := false) 6 rfl (m := 24) (by simp only [zP, aa, V]; exact rfl) (by kernel_rfl) rfl rfl rfl rfl rfl (fun hg17 => ?a17) ?b17 ?c17
 case a17 =>
  have hq17 := hg17; (try simp only [zB, reduceCtorEq] at hg17); simp only [zE]
  iterate 6 (refine bp rfl fun _ k0 => ?_; simp only [zO, zT, acs, reduceCtorEq, aa, V, ad, ag, af, ae, Mly.av]; (repeat refine an ?_); (try refine .inl ?_); apply k0; clear k0; simp only [zP, V])
  (refine aj rfl fun _ k0 => ?_; simp only [zO, zT, acs, reduceCtorEq, aa, V, ad, ag, af, ae, Mly.av]; (repeat refine an ?_); (try refine .inl ?_); apply k0; clear k0; simp only [zP, V])
  refine ao ?_
  refine ⟨by simp only [zP, aa, V]; exact rfl, rfl, ?_, rfl⟩; (repeat refine aS rfl ?_); exact bB (by exact rfl) hq17
 case b17 => exact cD
 simp only [bh, aY]
 refine ao ?_
 apply k16; clear k16; refine kp [0, 1, 2, 12, 16, 20, 31] ?_
 refine cd (fun hc18 => ?_) (fun hc18 => ?_)
 ·(try simp only [zB, reduceCtorEq] at hc18)
  refine ah fun _ k19 => ?_
  refine am hP hN rfl ?_
  (refine aj rfl fun _ k0 => ?_; simp only [zO, zT, acs, reduceCtorEq, aa, V, ad, ag, af, ae, Mly.av]; (repeat refine an ?_); (try refine .inl ?_); apply k0; clear k0; simp only [zP, V])
  refine ao ?_
  apply k19; clear k19; refine kp [0, 1, 2, 12, 16, 20, 31] ?_
  refine aE ?_
  refine ⟨nr, _, rfl, ?_⟩; simp only [zF, zP, aa, V, Mly.av]
  refine VLE.of_eq ?_
  refine congrArg (fun n => AV.one (AC.int IntKind.i64 n)) ?_
  symm
  unfold aL
  first
  | (rw [if_pos (by omega)]; done)
  | (rw [if_neg (by omega), if_pos (by omega)]; done)
  | (rw [if_neg (by omega), if_neg (by omega), if_pos (by omega)]; done)
  | (rw [if_neg (by omega), if_neg (by omega), if_neg (by omega), if_pos (by omega)]; done)
  | (rw [if_neg (by omega), if_neg (by omega), if_neg (by omega), if_neg (by omega), if_pos (by omega)]; done)
  | (rw [if_neg (by omega), if_neg (by omega), if_neg (by omega), if_neg (by omega), if_neg (by omega)]
     first
     | exact cE hrows (by omega) (by assumption)
     | exact cH fun i hi => hrows i (by omega))
 (try simp only [zB, reduceCtorEq] at hc18)
 refine ay ?_
 apply k15; clear k15; refine kp [0, 1, 2, 12, 16, 20, 31] ?_
 refine ah fun _ k20 => ?_
 refine ah fun _ k21 => ?_
 refine am hP hN rfl ?_
 iterate 7 (refine aj rfl fun _ k0 => ?_; simp only [zO, zT, acs, reduceCtorEq, aa, V, ad, ag, af, ae, Mly.av]; (repeat refine an ?_); (try refine .inl ?_); apply k0; clear k0; simp only [zP, V])
 refine ao ?_
 apply k21; clear k21; refine kp [0, 1, 2, 12, 16, 20, 31, 38] ?_
 refine cd (fun hc22 => ?_) (fun hc22 => ?_)
 ·(try simp only [zB, reduceCtorEq] at hc22)
  refine ah fun _ k23 => ?_
  refine am hP hN rfl ?_
  (refine aj rfl fun _ k0 => ?_; simp only [zO, zT, acs, reduceCtorEq, aa, V, ad, ag, af, ae, Mly.av]; (repeat refine an ?_); (try refine .inl ?_); apply k0; clear k0; simp only [zP, V])
  refine ao ?_
  apply k23; clear k23; refine kp [0, 1, 2, 12, 16, 20, 31, 38] ?_
  refine aE ?_
  refine ⟨nr, _, rfl, ?_⟩; simp only [zF, zP, aa, V, Mly.av]
  refine VLE.of_eq ?_
  refine congrArg (fun n => AV.one (AC.int IntKind.i64 n)) ?_
  symm
  unfold aL
  first
  | (rw [if_pos (by omega)]; done)
  | (rw [if_neg (by omega), if_pos (by omega)]; done)
  | (rw [if_neg (by omega), if_neg (by omega), if_pos (by omega)]; done)
  | (rw [if_neg (by omega), if_neg (by omega), if_neg (by omega), if_pos (by omega)]; done)
  | (rw [if_neg (by omega), if_neg (by omega), if_neg (by omega), if_neg (by omega), if_pos (by omega)]; done)
  | (rw [if_neg (by omega), if_neg (by omega), if_neg (by omega), if_neg (by omega), if_neg (by omega)]
     first
     | exact cE hrows (by omega) (by assumption)
     | exact cH fun i hi => hrows i (by omega))
 (try simp only [zB, reduceCtorEq] at hc22)
 refine ay ?_
 apply k20; clear k20; refine kp [0, 1, 2, 12, 16, 20, 31, 38] ?_
 refine ah fun _ k24 => ?_
 refine ah fun _ k25 => ?_
 refine am hP hN rfl ?_
 (refine aj rfl fun _ k0 => ?_; simp only [zO, zT, acs, reduceCtorEq, aa, V, ad, ag, af, ae, Mly.av]; (repeat refine an ?_); (try refine .inl ?_); apply k0; clear k0; simp only [zP, V])
 refine ao ?_
 apply k25; clear k25; refine kp [0, 1, 2, 3, 12, 16, 20, 31, 38] ?_
 refine aD ?_
 refine bn (fun n26 s26 => ∃ (k : Nat), (k ≤ m.nx.length) ∧ (∀ i, i < k → j8 m i = 0) ∧ n26 = m.nx.length - k ∧ s26 = { env := [(1, .one (.ptr 0 0 0 0)), (3, .one (.int .i64 (k : Int)))], L := [.vars 24 [.int .i64 m.inp, .int .i64 m.st, .list (.list (.int .i64)) m.nx, .list (.list (.int .i64)) m.ot]] }) ?_ ?_
 ·exact ⟨_, _, aA [1, 3], 0, Nat.zero_le _, fun i hi => by omega, rfl, rfl⟩
 rintro n26 s26 ⟨k, hk, hrows, rfl, rfl⟩
 refine ah fun _ k27 => ?_
 refine ah fun _ k28 => ?_
 refine am hP hN rfl ?_
 iterate 5 (refine aj rfl fun _ k0 => ?_; simp only [zO, zT, acs, reduceCtorEq, aa, V, ad, ag, af, ae, Mly.av]; (repeat refine an ?_); (try refine .inl ?_); apply k0; clear k0; simp only [zP, V])
 refine ao ?_
 apply k28; clear k28; refine kp [1, 3, 43] ?_
 refine cd (fun hc29 => ?_) (fun hc29 => ?_)
 ·(try simp only [zB, reduceCtorEq] at hc29)
  refine ay ?_
  apply k27; clear k27; refine kp [1, 3, 43] ?_
  refine ah fun _ k30 => ?_
  refine aD ?_
  refine ah fun _ k31 => ?_
  refine am hP hN rfl ?_
  iterate 2 (refine aj rfl fun _ k0 => ?_; simp only [zO, zT, acs, reduceCtorEq, aa, V, ad, ag, af, ae, Mly.av]; (repeat refine an ?_); (try refine .inl ?_); apply k0; clear k0; simp only [zP, V])
  refine aj rfl fun _ k0 => ?_
  refine aK (h := aC (BR m k (by omega) (by omega) (by omega))) rfl rfl (by first | exact rfl | (simp only [ev, zP, aa, V]; exact rfl)) (by simp only [zV, acs, reduceCtorEq, aa, V, ad, ag, af, ae, Mly.av]) ?_
  apply k0; clear k0; simp only [zP, V]
  (refine aj rfl fun _ k0 => ?_; simp only [zO, zT, acs, reduceCtorEq, aa, V, ad, ag, af, ae, Mly.av]; (repeat refine an ?_); (try refine .inl ?_); apply k0; clear k0; simp only [zP, V])
  refine ao ?_
  apply k31; clear k31; refine kp [1, 3, 4, 43] ?_
  refine ah fun _ k32 => ?_
  refine am hP hN rfl ?_
  iterate 2 (refine aj rfl fun _ k0 => ?_; simp only [zO, zT, acs, reduceCtorEq, aa, V, ad, ag, af, ae, Mly.av]; (repeat refine an ?_); (try refine .inl ?_); apply k0; clear k0; simp only [zP, V])
  refine ao ?_
  apply k32; clear k32; refine kp [1, 3, 4, 43, 50] ?_
  refine cd (fun hc33 => ?_) (fun hc33 => ?_)
  ·(try simp only [zB, reduceCtorEq] at hc33)
   refine ah fun _ k34 => ?_
   refine am hP hN rfl ?_
   iterate 2 (refine aj rfl fun _ k0 => ?_; simp only [zO, zT, acs, reduceCtorEq, aa, V, ad, ag, af, ae, Mly.av]; (repeat refine an ?_); (try refine .inl ?_); apply k0; clear k0; simp only [zP, V])
   refine ao ?_
   apply k34; clear k34; refine kp [1, 2, 3, 4, 43, 50] ?_
   refine aE ?_
   refine ⟨nr, _, rfl, ?_⟩; simp only [zF, zP, aa, V, Mly.av]
   refine VLE.of_eq ?_
   refine congrArg (fun n => AV.one (AC.int IntKind.i64 n)) ?_
   symm
   unfold aL
   first
   | (rw [if_pos (by omega)]; done)
   | (rw [if_neg (by omega), if_pos (by omega)]; done)
   | (rw [if_neg (by omega), if_neg (by omega), if_pos (by omega)]; done)
   | (rw [if_neg (by omega), if_neg (by omega), if_neg (by omega), if_pos (by omega)]; done)
   | (rw [if_neg (by omega), if_neg (by omega), if_neg (by omega), if_neg (by omega), if_pos (by omega)]; done)
   | (rw [if_neg (by omega), if_neg (by omega), if_neg (by omega), if_neg (by omega), if_neg (by omega)]
      first
      | exact cE hrows (by omega) (by assumption)
      | exact cH fun i hi => hrows i (by omega))
  (try simp only [zB, reduceCtorEq] at hc33)
  refine ay ?_
  apply k30; clear k30; refine kp [1, 3, 4, 43, 50] ?_
  refine am hP hN rfl ?_
  iterate 3 (refine aj rfl fun _ k0 => ?_; simp only [zO, zT, acs, reduceCtorEq, aa, V, ad, ag, af, ae, Mly.av]; (repeat refine an ?_); (try refine .inl ?_); apply k0; clear k0; simp only [zP, V])
  refine ao ?_
  refine ⟨_, _, ?_, aA [1, 3], k + 1, by omega, fun i hi => ?_, rfl, rfl⟩
  · omega
  · by_cases e : i = k
    · rw [e]; first | assumption | omega
    · exact hrows i (by omega)
 (try simp only [zB, reduceCtorEq] at hc29)
 refine aZ ?_
 apply k24; clear k24; refine kp [1, 3, 43] ?_
 refine ah fun _ k35 => ?_
 refine am hP hN rfl ?_
 (refine aj rfl fun _ k0 => ?_; simp only [zO, zT, acs, reduceCtorEq, aa, V, ad, ag, af, ae, Mly.av]; (repeat refine an ?_); (try refine .inl ?_); apply k0; clear k0; simp only [zP, V])
 refine ao ?_
 apply k35; clear k35; refine kp [1, 2, 3, 43] ?_
 refine aE ?_
 refine ⟨nr, _, rfl, ?_⟩; simp only [zF, zP, aa, V, Mly.av]
 refine VLE.of_eq ?_
 refine congrArg (fun n => AV.one (AC.int IntKind.i64 n)) ?_
 symm
 unfold aL
 first
 | (rw [if_pos (by omega)]; done)
 | (rw [if_neg (by omega), if_pos (by omega)]; done)
 | (rw [if_neg (by omega), if_neg (by omega), if_pos (by omega)]; done)
 | (rw [if_neg (by omega), if_neg (by omega), if_neg (by omega), if_pos (by omega)]; done)
 | (rw [if_neg (by omega), if_neg (by omega), if_neg (by omega), if_neg (by omega), if_pos (by omega)]; done)
 | (rw [if_neg (by omega), if_neg (by omega), if_neg (by omega), if_neg (by omega), if_neg (by omega)]
    first
    | exact cE hrows (by omega) (by assumption)
    | exact cH fun i hi => hrows i (by omega))
end Go.Proofs.Ytoahhklogohehaa
