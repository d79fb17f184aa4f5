/- Contracts of functions of this seat, each out of a walk through its code, and plain facts on what they compute. Conditions: those that each theorem names. -/
import Derived.Test.YtfakhaagbimljaaDoorW04
set_option linter.unusedSimpArgs false
set_option linter.unusedVariables false
set_option maxRecDepth 100000
namespace Go.Proofs.YtfakhaagbimljaaDoor
open Go Go.AV
open Nat renaming reduceEqDiff → J, reduceAdd → D, reduceLeDiff → M, reduceLT → U, reduceMul → O, reduceSub → S
open List renaming set_cons_zero → bC, set_cons_succ → bD, getD_cons_zero → c9, length_append → aj, map_cons → aP, cons_append → b0, map_nil → bb, length_cons → ad, nil_append → aY, take_succ_cons → am, length_nil → aq, length_map → bJ, length_replicate → bo, take_length → az, mem_cons_self → aO, mem_cons_of_mem → aM
open Int renaming toNat_natCast → af
theorem tK (s : Bs) (hs : s.length ≤ 1048576) : aV Tryd.prog 23 [.one (.str s), .one (.int .u8 32)] (.one (.list .str (spl s))) := by
 refine aw Tryd.func23 rfl (by kernel_rfl) (Nat.le_of_ble_eq_true rfl) rfl fun C hP hN hB => ?_
 replace hN : C.N = 45 := hN
 simp only [aH, D]
 refine V fun _ k1 => ?_
 refine a9 hP hN rfl ?_
 (refine Z rfl fun _ k0 => ?_; simp only [zO, zT, acs, reduceCtorEq, J, D, M, U, O, S]; (repeat refine an ?_); (try refine .inl ?_); apply k0; clear k0; simp only [zP, D])
 refine aa ?_
 apply k1; clear k1; refine kp [0, 1, 4] ?_
 refine V fun _ k2 => ?_
 refine a9 hP hN rfl ?_
 (refine Z rfl fun _ k0 => ?_; simp only [zO, zT, acs, reduceCtorEq, J, D, M, U, O, S]; (repeat refine an ?_); refine Or.inr (Or.inl (k0 _ ?_)); clear k0; simp only [zP, D])
 (refine Z rfl fun _ k0 => ?_; simp only [zO, zT, acs, reduceCtorEq, J, D, M, U, O, S]; (repeat refine an ?_); (try refine .inl ?_); apply k0; clear k0; simp only [zP, D])
 refine aa ?_
 apply k2; clear k2; refine kp [0, 1, 4, 5] ?_
 refine V fun _ k3 => ?_
 refine a9 hP hN rfl ?_
 (refine Z rfl fun _ k0 => ?_; simp only [zO, zT, acs, reduceCtorEq, J, D, M, U, O, S]; (repeat refine an ?_); (try refine .inl ?_); apply k0; clear k0; simp only [zP, D])
 refine aa ?_
 apply k3; clear k3; refine kp [0, 1, 4, 5, 6] ?_
 refine V fun _ k4 => ?_
 refine V fun _ k5 => ?_
 refine a9 hP hN rfl ?_
 (refine Z rfl fun _ k0 => ?_; simp only [zO, zT, acs, reduceCtorEq, J, D, M, U, O, S]; (repeat refine an ?_); (try refine .inl ?_); apply k0; clear k0; simp only [zP, D])
 refine aa ?_
 apply k5; clear k5; refine kp [0, 1, 4, 5, 6, 7] ?_
 refine au ?_
 refine aU (fun n6 s6 => ∃ (k : Nat) (v : Nat) (o : List Bs) (f : Nat), (k ≤ s.length + 1) ∧ (k ≤ s.length → o = (dp s k).1 ++ [[]] ∧ f = (dp s k).2) ∧ (k = s.length + 1 → o = spl s) ∧ n6 = s.length + 1 - k ∧ s6 = { env := [(0, .one (.str s)), (1, .one (.int .u8 32)), (4, .one .nils), (5, .one (.row 0 v)), (6, .one (.int .i64 (f : Int))), (7, .one (.int .i64 (k : Int)))], L := [.row .str 9 v o] }) ?_ ?_
 ·exact ⟨_, _, ak [0, 1, 4, 5, 6, 7], 0, 0, [[]], 0, by omega, fun _ => ⟨rfl, rfl⟩, fun h => by omega, rfl, rfl⟩
 rintro n6 s6 ⟨k, v, o, f, hk, ho, he, rfl, rfl⟩
 refine V fun _ k7 => ?_
 refine V fun _ k8 => ?_
 refine a9 hP hN rfl ?_
 iterate 4 (refine Z rfl fun _ k0 => ?_; simp only [zO, zT, acs, reduceCtorEq, J, D, M, U, O, S]; (repeat refine an ?_); (try refine .inl ?_); apply k0; clear k0; simp only [zP, D])
 refine aa ?_
 apply k8; clear k8; refine kp [0, 1, 4, 5, 6, 7, 12] ?_
 refine cd (fun hc9 => ?_) (fun hc9 => ?_)
 ·(try simp only [zB, reduceCtorEq] at hc9)
  have hks : k ≤ s.length := by omega
  obtain ⟨rfl, rfl⟩ := ho hks
  have hcf := jo s k; have hcl := kB s k
  refine ag ?_
  apply k7; clear k7; refine kp [0, 1, 4, 5, 6, 7, 12] ?_
  refine V fun _ k10 => ?_
  refine au ?_
  refine V fun _ k11 => ?_
  refine a9 hP hN rfl ?_
  iterate 5 (refine Z rfl fun _ k0 => ?_; simp only [zO, zT, acs, reduceCtorEq, J, D, M, U, O, S]; (repeat refine an ?_); (try refine .inl ?_); apply k0; clear k0; simp only [zP, D])
  refine' aB (want := false) 5 rfl (m := 19) (by simp only [zP, J, D]; exact rfl) (by kernel_rfl) rfl rfl rfl rfl rfl (fun hg12 => ?a12) ?b12 ?c12
  case a12 =>
   have hq12 := hg12; (try simp only [zB, reduceCtorEq] at hg12); simp only [zE]
   iterate 5 (refine aL rfl fun _ k0 => ?_; simp only [zO, zT, acs, reduceCtorEq, J, D, M, U, O, S]; (repeat refine an ?_); (try refine .inl ?_); apply k0; clear k0; simp only [zP, D])
   (refine Z rfl fun _ k0 => ?_; simp only [zO, zT, acs, reduceCtorEq, J, D, M, U, O, S]; (repeat refine an ?_); (try refine .inl ?_); apply k0; clear k0; simp only [zP, D])
   refine aa ?_
   refine ⟨by simp only [zP, J, D]; exact rfl, rfl, ?_, rfl⟩; (repeat refine aA rfl ?_); exact aN (by exact rfl) hq12
  case b12 => exact bc
  simp only [aK, aF]
  refine aa ?_
  apply k11; clear k11; refine kp [0, 1, 4, 5, 6, 7, 12, 25] ?_
  refine cd (fun hc13 => ?_) (fun hc13 => ?_)
  ·(try simp only [zB, reduceCtorEq] at hc13)
   refine V fun _ k14 => ?_
   refine a9 hP hN rfl ?_
   iterate 7 (refine Z rfl fun _ k0 => ?_; simp only [zO, zT, acs, reduceCtorEq, J, D, M, U, O, S, aj, ad, aq]; (repeat refine an ?_); (try refine .inl ?_); apply k0; clear k0; simp only [zP, D, mA, ez])
   (refine Z rfl fun _ k0 => ?_; simp only [zE, op1, ev, lkp, ch, bg, bZ, fV, fc, bM, cq, dm, Nat.div_one, cD, cB, Ty.size, b9, dite_true, di, bm, cA, cG, ck, d4, bT, bnd, cw, zG, Ty.dflt, Nat.mul_one, ne_eq, not_false_eq_true, Int.natCast_one, Int.mul_one, dQ, bp, bl, acs, reduceCtorEq, J, D, M, U, O, S, Tryd.el22, Tryd.td22, Tryd.td3, Tryd.td9, aj, ad, aq]; (repeat refine an ?_); (try refine .inl ?_); apply k0; clear k0; simp only [zP, D, mA, ez])
   iterate 2 (refine Z rfl fun _ k0 => ?_; simp only [zO, zT, acs, reduceCtorEq, J, D, M, U, O, S, aj, ad, aq]; (repeat refine an ?_); (try refine .inl ?_); apply k0; clear k0; simp only [zP, D, mA, ez])
   refine aa ?_
   apply k14; clear k14; refine kp [0, 1, 4, 5, 6, 7, 12, 25] ?_
   refine V fun _ k15 => ?_
   refine a9 hP hN rfl ?_
   iterate 3 (refine Z rfl fun _ k0 => ?_; simp only [zO, zT, acs, reduceCtorEq, J, D, M, U, O, S]; (repeat refine an ?_); (try refine .inl ?_); apply k0; clear k0; simp only [zP, D])
   refine aa ?_
   apply k15; clear k15; refine kp [0, 1, 4, 5, 6, 7, 12, 25] ?_
   refine V fun _ k16 => ?_
   refine a9 hP hN rfl ?_
   iterate 4 (refine Z rfl fun _ k0 => ?_; simp only [zO, zT, acs, reduceCtorEq, J, D, M, U, O, S]; (repeat refine an ?_); (try refine .inl ?_); apply k0; clear k0; simp only [zP, D])
   refine aa ?_
   apply k16; clear k16; refine kp [0, 1, 4, 5, 6, 7, 12, 25, 40] ?_
   refine cd (fun hc17 => ?_) (fun hc17 => ?_)
   ·(try simp only [zB, reduceCtorEq] at hc17)
    refine a9 hP hN rfl ?_
    iterate 4 (refine Z rfl fun _ k0 => ?_; simp only [zO, zT, acs, reduceCtorEq, J, D, M, U, O, S, aj, ad, aq]; (repeat refine an ?_); (try refine .inl ?_); apply k0; clear k0; simp only [zP, D])
    refine aa ?_
    apply k10; clear k10; refine kp [0, 1, 4, 5, 6, 7, 12, 25, 40] ?_
    refine a9 hP hN rfl ?_
    iterate 3 (refine Z rfl fun _ k0 => ?_; simp only [zO, zT, acs, reduceCtorEq, J, D, M, U, O, S]; (repeat refine an ?_); (try refine .inl ?_); apply k0; clear k0; simp only [zP, D])
    refine aa ?_
    first
    | (have h32 : bt s k = 32 := by unfold bt; omega
       refine ⟨_, _, ?_, ak [0, 1, 4, 5, 6, 7], k + 1, v + 1, _, k + 1, by omega, fun _ => ?_, fun h => by omega, rfl, rfl⟩
       · omega
       · rw [j7 h32]; exact ⟨rfl, rfl⟩)
    | (refine ⟨_, _, ?_, ak [0, 1, 4, 5, 6, 7], k + 1, v, _, k + 1, by omega, fun h => by omega, fun _ => ?_, rfl, rfl⟩
       · omega
       · have e : k = s.length := by omega
         subst e; exact (kS s).symm)
    | (have h32 : ¬ bt s k = 32 := by unfold bt; omega
       refine ⟨_, _, ?_, ak [0, 1, 4, 5, 6, 7], k + 1, v, _, _, by omega, fun h => ?_, fun h => by omega, rfl, rfl⟩
       · omega
       · rw [ko h32]; exact ⟨rfl, rfl⟩)
   (try simp only [zB, reduceCtorEq] at hc17)
   refine ag ?_
   apply k10; clear k10; refine kp [0, 1, 4, 5, 6, 7, 12, 25, 40] ?_
   refine a9 hP hN rfl ?_
   iterate 3 (refine Z rfl fun _ k0 => ?_; simp only [zO, zT, acs, reduceCtorEq, J, D, M, U, O, S]; (repeat refine an ?_); (try refine .inl ?_); apply k0; clear k0; simp only [zP, D])
   refine aa ?_
   first
   | (have h32 : bt s k = 32 := by unfold bt; omega
      refine ⟨_, _, ?_, ak [0, 1, 4, 5, 6, 7], k + 1, v + 1, _, k + 1, by omega, fun _ => ?_, fun h => by omega, rfl, rfl⟩
      · omega
      · rw [j7 h32]; exact ⟨rfl, rfl⟩)
   | (refine ⟨_, _, ?_, ak [0, 1, 4, 5, 6, 7], k + 1, v, _, k + 1, by omega, fun h => by omega, fun _ => ?_, rfl, rfl⟩
      · omega
      · have e : k = s.length := by omega
        subst e; exact (kS s).symm)
   | (have h32 : ¬ bt s k = 32 := by unfold bt; omega
      refine ⟨_, _, ?_, ak [0, 1, 4, 5, 6, 7], k + 1, v, _, _, by omega, fun h => ?_, fun h => by omega, rfl, rfl⟩
      · omega
      · rw [ko h32]; exact ⟨rfl, rfl⟩)
  (try simp only [zB, reduceCtorEq] at hc13)
  refine ag ?_
  apply k10; clear k10; refine kp [0, 1, 4, 5, 6, 7, 12, 25] ?_
  refine a9 hP hN rfl ?_
  iterate 3 (refine Z rfl fun _ k0 => ?_; simp only [zO, zT, acs, reduceCtorEq, J, D, M, U, O, S]; (repeat refine an ?_); (try refine .inl ?_); apply k0; clear k0; simp only [zP, D])
  refine aa ?_
  first
  | (have h32 : bt s k = 32 := by unfold bt; omega
     refine ⟨_, _, ?_, ak [0, 1, 4, 5, 6, 7], k + 1, v + 1, _, k + 1, by omega, fun _ => ?_, fun h => by omega, rfl, rfl⟩
     · omega
     · rw [j7 h32]; exact ⟨rfl, rfl⟩)
  | (refine ⟨_, _, ?_, ak [0, 1, 4, 5, 6, 7], k + 1, v, _, k + 1, by omega, fun h => by omega, fun _ => ?_, rfl, rfl⟩
     · omega
     · have e : k = s.length := by omega
       subst e; exact (kS s).symm)
  | (have h32 : ¬ bt s k = 32 := by unfold bt; omega
     refine ⟨_, _, ?_, ak [0, 1, 4, 5, 6, 7], k + 1, v, _, _, by omega, fun h => ?_, fun h => by omega, rfl, rfl⟩
     · omega
     · rw [ko h32]; exact ⟨rfl, rfl⟩)
 (try simp only [zB, reduceCtorEq] at hc9)
 refine aR ?_
 apply k4; clear k4; refine kp [0, 1, 4, 5, 6, 7, 12] ?_
 refine V fun _ k18 => ?_
 refine a9 hP hN rfl ?_
 iterate 2 (refine Z rfl fun _ k0 => ?_; simp only [zO, zT, acs, reduceCtorEq, J, D, M, U, O, S]; (repeat refine an ?_); (try refine .inl ?_); apply k0; clear k0; simp only [zP, D])
 refine aa ?_
 apply k18; clear k18; refine kp [0, 1, 4, 5, 6, 7, 12] ?_
 refine ah ?_
 refine ⟨nr, _, rfl, ?_⟩; simp only [zF, zP, J, D]
 refine VLE.of_eq ?_
 rw [he (by omega)]
theorem qA (s : Bs) (hs : s.length ≤ 1048576) : aV Tryd.prog 31 [.one (.str s)] (.tup [.one (.list .str (woL s)), .one (.bool (decide ([] ∉ aD s)))]) := by
 refine aw Tryd.func31 rfl (by kernel_rfl) (Nat.le_of_ble_eq_true rfl) rfl fun C hP hN hB => ?_
 replace hN : C.N = 22 := hN
 simp only [aH, D]
 refine V fun _ k1 => ?_
 refine a9 hP hN rfl ?_
 iterate 2 (refine Z rfl fun _ k0 => ?_; simp only [zO, zT, acs, reduceCtorEq, J, D, M, U, O, S]; (repeat refine an ?_); (try refine .inl ?_); apply k0; clear k0; simp only [zP, D])
 refine aa ?_
 apply k1; clear k1; refine kp [0, 2, 3] ?_
 refine V fun _ k2 => ?_
 refine V fun _ k3 => ?_
 refine a9 hP hN rfl ?_
 iterate 2 (refine Z rfl fun _ k0 => ?_; simp only [zO, zT, acs, reduceCtorEq, J, D, M, U, O, S]; (repeat refine an ?_); (try refine .inl ?_); apply k0; clear k0; simp only [zP, D])
 refine aa ?_
 apply k3; clear k3; refine kp [0, 2, 3, 7] ?_
 refine cd (fun hc4 => ?_) (fun hc4 => ?_)
 ·(try simp only [zB, reduceCtorEq] at hc4)
  refine V fun _ k5 => ?_
  refine a9 hP hN rfl ?_
  iterate 2 (refine Z rfl fun _ k0 => ?_; simp only [zO, zT, acs, reduceCtorEq, J, D, M, U, O, S]; (repeat refine an ?_); (try refine .inl ?_); apply k0; clear k0; simp only [zP, D])
  refine aa ?_
  apply k5; clear k5; refine kp [0, 2, 3, 7] ?_
  refine ah ?_
  refine ⟨nr, _, rfl, ?_⟩; simp only [zF, zP, J, D]
  first
  | (have g : [] ∉ aD s := by rw [fo ‹s = []›]; simp
     rw [lY g, decide_eq_true g, fo ‹s = []›]; exact dI)
  | (have g := (jP (fun q hq2 => hq q hq2) (by omega) hme).2
     rw [tg g, decide_eq_false (fun h => h g)]; exact dI)
  | (have g := l6 (q := []) (l := aD s) fun q hq2 => hq q (by omega)
     rw [lY g, decide_eq_true g]; exact VLE.of_eq rfl)
 (try simp only [zB, reduceCtorEq] at hc4)
 refine ag ?_
 apply k2; clear k2; refine kp [0, 2, 3, 7] ?_
 refine V fun _ k6 => ?_
 refine a9 hP hN rfl ?_
 (refine Z rfl fun _ k0 => ?_; simp only [zO, zT, acs, reduceCtorEq, J, D, M, U, O, S]; (repeat refine an ?_); (try refine .inl ?_); apply k0; clear k0; simp only [zP, D])
 refine Z rfl fun _ k0 => ?_
 refine ar (h := ae (tK s hs)) rfl rfl (by first | exact rfl | (simp only [ev, zP, J, D]; exact rfl)) (by simp only [zV, acs, reduceCtorEq, J, D, M, U, O, S]) ?_
 apply k0; clear k0; simp only [zP, D]
 (refine Z rfl fun _ k0 => ?_; simp only [zO, zT, acs, reduceCtorEq, J, D, M, U, O, S]; (repeat refine an ?_); (try refine .inl ?_); apply k0; clear k0; simp only [zP, D])
 refine aa ?_
 apply k6; clear k6; refine kp [0, 2, 3, 4, 7] ?_
 refine V fun _ k7 => ?_
 refine V fun _ k8 => ?_
 rw [← kD ‹¬ s = []›]; have hpl := pf s
 refine a9 hP hN rfl ?_
 (refine Z rfl fun _ k0 => ?_; simp only [zO, zT, acs, reduceCtorEq, J, D, M, U, O, S]; (repeat refine an ?_); (try refine .inl ?_); apply k0; clear k0; simp only [zP, D])
 refine aa ?_
 apply k8; clear k8; refine kp [0, 2, 3, 4, 5, 7] ?_
 refine au ?_
 refine aU (fun n9 s9 => ∃ (k : Nat), (k ≤ (aD s).length) ∧ (∀ q, q < k → (aD s).getD q [] ≠ []) ∧ n9 = (aD s).length - k ∧ s9 = { env := [(2, .one .nils), (3, .one (.bool false)), (4, .one (.list .str (aD s))), (5, .one (.int .i64 (k : Int)))], L := [] }) ?_ ?_
 ·exact ⟨_, _, ak [2, 3, 4, 5], 0, Nat.zero_le _, fun q hq => by omega, rfl, rfl⟩
 rintro n9 s9 ⟨k, hk, hq, rfl, rfl⟩
 refine V fun _ k10 => ?_
 refine V fun _ k11 => ?_
 refine a9 hP hN rfl ?_
 iterate 4 (refine Z rfl fun _ k0 => ?_; simp only [zO, zT, acs, reduceCtorEq, J, D, M, U, O, S]; (repeat refine an ?_); (try refine .inl ?_); apply k0; clear k0; simp only [zP, D])
 refine aa ?_
 apply k11; clear k11; refine kp [2, 3, 4, 5, 13] ?_
 refine cd (fun hc12 => ?_) (fun hc12 => ?_)
 ·(try simp only [zB, reduceCtorEq] at hc12)
  refine ag ?_
  apply k10; clear k10; refine kp [2, 3, 4, 5, 13] ?_
  refine V fun _ k13 => ?_
  refine au ?_
  refine V fun _ k14 => ?_
  refine a9 hP hN rfl ?_
  iterate 5 (refine Z rfl fun _ k0 => ?_; simp only [zO, zT, acs, reduceCtorEq, J, D, M, U, O, S]; (repeat refine an ?_); (try refine .inl ?_); apply k0; clear k0; simp only [zP, D])
  refine aa ?_
  apply k14; clear k14; refine kp [2, 3, 4, 5, 13, 20] ?_
  refine cd (fun hc15 => ?_) (fun hc15 => ?_)
  ·(try simp only [zB, reduceCtorEq] at hc15)
   have hme : (aD s).getD k [] = [] := hc15
   refine V fun _ k16 => ?_
   refine a9 hP hN rfl ?_
   iterate 2 (refine Z rfl fun _ k0 => ?_; simp only [zO, zT, acs, reduceCtorEq, J, D, M, U, O, S]; (repeat refine an ?_); (try refine .inl ?_); apply k0; clear k0; simp only [zP, D])
   refine aa ?_
   apply k16; clear k16; refine kp [2, 3, 4, 5, 13, 20] ?_
   refine ah ?_
   refine ⟨nr, _, rfl, ?_⟩; simp only [zF, zP, J, D]
   first
   | (have g : [] ∉ aD s := by rw [fo ‹s = []›]; simp
      rw [lY g, decide_eq_true g, fo ‹s = []›]; exact dI)
   | (have g := (jP (fun q hq2 => hq q hq2) (by omega) hme).2
      rw [tg g, decide_eq_false (fun h => h g)]; exact dI)
   | (have g := l6 (q := []) (l := aD s) fun q hq2 => hq q (by omega)
      rw [lY g, decide_eq_true g]; exact VLE.of_eq rfl)
  (try simp only [zB, reduceCtorEq] at hc15)
  have hne : (aD s).getD k [] ≠ [] := hc15
  refine ag ?_
  apply k13; clear k13; refine kp [2, 3, 4, 5, 13, 20] ?_
  refine a9 hP hN rfl ?_
  iterate 3 (refine Z rfl fun _ k0 => ?_; simp only [zO, zT, acs, reduceCtorEq, J, D, M, U, O, S]; (repeat refine an ?_); (try refine .inl ?_); apply k0; clear k0; simp only [zP, D])
  refine aa ?_
  refine ⟨_, _, ?_, ak [2, 3, 4, 5], k + 1, by omega, fun q hq2 => ?_, rfl, rfl⟩
  · omega
  · by_cases e : q = k
    · rw [e]; exact hne
    · exact hq q (by omega)
 (try simp only [zB, reduceCtorEq] at hc12)
 refine aR ?_
 apply k7; clear k7; refine kp [2, 3, 4, 5, 13] ?_
 refine V fun _ k17 => ?_
 refine a9 hP hN rfl ?_
 iterate 3 (refine Z rfl fun _ k0 => ?_; simp only [zO, zT, acs, reduceCtorEq, J, D, M, U, O, S]; (repeat refine an ?_); (try refine .inl ?_); apply k0; clear k0; simp only [zP, D])
 refine aa ?_
 apply k17; clear k17; refine kp [2, 3, 4, 5, 13] ?_
 refine ah ?_
 refine ⟨nr, _, rfl, ?_⟩; simp only [zF, zP, J, D]
 first
 | (have g : [] ∉ aD s := by rw [fo ‹s = []›]; simp
    rw [lY g, decide_eq_true g, fo ‹s = []›]; exact dI)
 | (have g := (jP (fun q hq2 => hq q hq2) (by omega) hme).2
    rw [tg g, decide_eq_false (fun h => h g)]; exact dI)
 | (have g := l6 (q := []) (l := aD s) fun q hq2 => hq q (by omega)
    rw [lY g, decide_eq_true g]; exact VLE.of_eq rfl)
theorem si (l : Bs) (hl : ¬ l = []) (h : l.length ≤ 1048576) : aV Tryd.prog 31 [.one (.str l)] (.tup [.one (.list .str (if [] ∈ spB 32 l then [] else spB 32 l)), .one (.bool (decide ([] ∉ spB 32 l)))]) := by
  have g := qA l h
  have e : aD l = spB 32 l := (kD hl).trans (sI l)
  unfold woL at g
  rw [e] at g
  exact g
set_option maxHeartbeats 2000000 in
theorem pG (xs ys : List Bs) (s : Bs) (hx : ∀ k, k < xs.length → (xs.getD k []).length ≤ 1048576) (hy : ∀ k, k < ys.length → (ys.getD k []).length ≤ 1048576) (hs : s.length ≤ 900000) : aV Tryd.prog 11 [.agg [.list .str xs], .agg [.list .str ys], .one (.str s)] (.tup [.one (.list (.pair (.list (.int .i64)) (.pair (.list (.int .i64)) .unit)) (PG xs ys s).1), .one (.int .i64 (PG xs ys s).2.1), .one (.int .i64 (PG xs ys s).2.2)]) := by
 have hpl := gT 10 s; have hp0 := fq 10 s
 refine aw Tryd.func11 rfl (by kernel_rfl) (Nat.le_of_ble_eq_true rfl) rfl fun C hP hN hB => ?_
 replace hN : C.N = 91 := hN
 simp only [aH, D]
 refine V fun _ k1 => ?_
 refine a9 hP hN rfl ?_
 iterate 5 (refine Z rfl fun _ k0 => ?_; simp only [zO, zT, acs, reduceCtorEq, J, D, M, U, O, S]; (repeat refine And.intro (by first | omega | assumption | exact rfl | exact ⟨by omega, hne0 (by assumption)⟩) ?_); (try refine .inl ?_); apply k0; clear k0; simp only [zP, D])
 refine aa ?_
 apply k1; clear k1; refine kp [0, 1, 2, 3, 4, 6, 7, 8] ?_
 refine V fun _ k2 => ?_
 refine V fun _ k3 => ?_
 refine a9 hP hN rfl ?_
 iterate 2 (refine Z rfl fun _ k0 => ?_; simp only [zO, zT, acs, reduceCtorEq, J, D, M, U, O, S]; (repeat refine And.intro (by first | omega | assumption | exact rfl | exact ⟨by omega, hne0 (by assumption)⟩) ?_); (try refine .inl ?_); apply k0; clear k0; simp only [zP, D])
 refine Z rfl fun _ k0 => ?_
 refine ar (h := ae (o5 xs ys hx hy)) rfl rfl (by first | exact rfl | (simp only [ev, zP, J, D]; exact rfl)) (by simp only [zV, acs, reduceCtorEq, J, D, M, U, O, S]) ?_
 apply k0; clear k0; simp only [zP, D]
 (refine Z rfl fun _ k0 => ?_; simp only [zO, zT, acs, reduceCtorEq, J, D, M, U, O, S]; (repeat refine And.intro (by first | omega | assumption | exact rfl | exact ⟨by omega, hne0 (by assumption)⟩) ?_); (try refine .inl ?_); apply k0; clear k0; simp only [zP, D])
 refine aa ?_
 apply k3; clear k3; refine kp [0, 1, 2, 3, 4, 6, 7, 8, 19] ?_
 refine cd (fun hc4 => ?_) (fun hc4 => ?_)
 ·(try simp only [zB, reduceCtorEq] at hc4)
  have hb0 := hc4
  refine V fun _ k5 => ?_
  refine a9 hP hN rfl ?_
  iterate 2 (refine Z rfl fun _ k0 => ?_; simp only [zO, zT, acs, reduceCtorEq, J, D, M, U, O, S]; (repeat refine And.intro (by first | omega | assumption | exact rfl | exact ⟨by omega, hne0 (by assumption)⟩) ?_); (try refine .inl ?_); apply k0; clear k0; simp only [zP, D])
  refine Z rfl fun _ k0 => ?_
  refine ar (h := ae (o5 xs ys hx hy)) rfl rfl (by first | exact rfl | (simp only [ev, zP, J, D]; exact rfl)) (by simp only [zV, acs, reduceCtorEq, J, D, M, U, O, S]) ?_
  apply k0; clear k0; simp only [zP, D]
  iterate 3 (refine Z rfl fun _ k0 => ?_; simp only [zO, zT, acs, reduceCtorEq, J, D, M, U, O, S]; (repeat refine And.intro (by first | omega | assumption | exact rfl | exact ⟨by omega, hne0 (by assumption)⟩) ?_); (try refine .inl ?_); apply k0; clear k0; simp only [zP, D])
  refine aa ?_
  apply k5; clear k5; refine kp [0, 1, 2, 3, 4, 6, 7, 8, 19] ?_
  refine ah ?_
  refine ⟨nr, _, rfl, ?_⟩; simp only [zF, zP, J, D]
  first
  | (rw [gB hb0]; exact aT ⟨aZ (aE rfl), fun _ _ _ _ _ h => h, fun _ _ _ _ _ h => h, trivial⟩)
  | (rw [hPG, bj (by omega) hns2 (by rw [dA hw9]; decide), dA hw9]; exact aT ⟨aZ (aE rfl), fun _ _ _ _ _ h => h, fun _ _ _ _ _ h => h, trivial⟩)
  | (rw [hPG, bj (by omega) hns2 (by rw [bQ hw9 (by omega)]; decide), bQ hw9 (by omega)]; exact aT ⟨aZ (aE rfl), fun _ _ _ _ _ h => h, fun _ _ _ _ _ h => h, trivial⟩)
  | (rw [hPG, bj (by omega) hns2 (by rw [bW hw9 (by omega)]; exact hte), bW hw9 (by omega)]; exact aT ⟨aZ (aE rfl), fun _ _ _ _ _ h => h, fun _ _ _ _ _ h => h, trivial⟩)
  | (rw [hPG, br hkn, if_neg hla, show (k : Int) + 1 = ((spB 10 s).length : Int) by omega]; exact aT ⟨aZ (aE rfl), fun _ _ _ _ _ h => h, fun _ _ _ _ _ h => h, trivial⟩)
  | (rw [hPG, br hkn, if_pos hla]; exact VLE.of_eq rfl)
 (try simp only [zB, reduceCtorEq] at hc4)
 have hb0 := hc4
 refine ag ?_
 apply k2; clear k2; refine kp [0, 1, 2, 3, 4, 6, 7, 8, 19] ?_
 refine V fun _ k6 => ?_
 refine V fun _ k7 => ?_
 refine a9 hP hN rfl ?_
 iterate 3 (refine Z rfl fun _ k0 => ?_; simp only [zO, zT, acs, reduceCtorEq, J, D, M, U, O, S]; (repeat refine And.intro (by first | omega | assumption | exact rfl | exact ⟨by omega, hne0 (by assumption)⟩) ?_); (try refine .inl ?_); apply k0; clear k0; simp only [zP, D])
 refine aa ?_
 apply k7; clear k7; refine kp [0, 1, 2, 3, 4, 6, 7, 8, 19, 25] ?_
 refine cd (fun hc8 => ?_) (fun hc8 => ?_)
 · exfalso; (try simp only [zB, reduceCtorEq] at hc8); all_goals (first | (cases hc8; done) | omega | (simp at hc8; done) | (simp_all; done))
 (try simp only [zB, reduceCtorEq] at hc8)
 refine ag ?_
 apply k6; clear k6; refine kp [0, 1, 2, 3, 4, 6, 7, 8, 19, 25] ?_
 refine V fun _ k9 => ?_
 refine a9 hP hN rfl ?_
 (refine Z rfl fun _ k0 => ?_; simp only [zO, zT, acs, reduceCtorEq, J, D, M, U, O, S]; (repeat refine And.intro (by first | omega | assumption | exact rfl | exact ⟨by omega, hne0 (by assumption)⟩) ?_); (try refine .inl ?_); apply k0; clear k0; simp only [zP, D])
 refine aa ?_
 apply k9; clear k9; refine kp [0, 1, 2, 3, 4, 6, 7, 8, 9, 19, 25] ?_
 refine V fun _ k10 => ?_
 refine a9 hP hN rfl ?_
 (refine Z rfl fun _ k0 => ?_; simp only [zO, zT, acs, reduceCtorEq, J, D, M, U, O, S]; (repeat refine And.intro (by first | omega | assumption | exact rfl | exact ⟨by omega, hne0 (by assumption)⟩) ?_); (try refine .inl ?_); apply k0; clear k0; simp only [zP, D])
 refine Z rfl fun _ k0 => ?_
 refine ar (h := ae (rq s (by omega))) rfl rfl (by first | exact rfl | (simp only [ev, zP, J, D]; exact rfl)) (by simp only [zV, acs, reduceCtorEq, J, D, M, U, O, S]) ?_
 apply k0; clear k0; simp only [zP, D]
 (refine Z rfl fun _ k0 => ?_; simp only [zO, zT, acs, reduceCtorEq, J, D, M, U, O, S]; (repeat refine And.intro (by first | omega | assumption | exact rfl | exact ⟨by omega, hne0 (by assumption)⟩) ?_); (try refine .inl ?_); apply k0; clear k0; simp only [zP, D])
 refine aa ?_
 apply k10; clear k10; refine kp [0, 1, 2, 3, 4, 6, 7, 8, 9, 10, 19, 25] ?_
 refine V fun _ k11 => ?_
 refine V fun _ k12 => ?_
 refine a9 hP hN rfl ?_
 (refine Z rfl fun _ k0 => ?_; simp only [zO, zT, acs, reduceCtorEq, J, D, M, U, O, S]; (repeat refine And.intro (by first | omega | assumption | exact rfl | exact ⟨by omega, hne0 (by assumption)⟩) ?_); (try refine .inl ?_); apply k0; clear k0; simp only [zP, D])
 refine aa ?_
 apply k12; clear k12; refine kp [0, 1, 2, 3, 4, 6, 7, 8, 9, 10, 11, 19, 25] ?_
 refine au ?_
 refine nR 9 (.pair (.list (.int .i64)) (.pair (.list (.int .i64)) .unit)) 60 (by decide) rfl ?_; simp only [ad, aq, b0, aY, Nat.zero_add, D]
 refine aU (fun n13 s13 => ∃ (k v : Nat) (R : List TRC), (k + 1 ≤ (spB 10 s).length) ∧ (R.length ≤ k) ∧ (R.length ≤ 10000) ∧ (PG xs ys s = PGL xs ys ((spB 10 s).drop k) k R) ∧ n13 = (spB 10 s).length - k ∧ s13 = { env := [(3, .one (.ptr 0 0 0 0)), (4, .one (.ptr 1 0 0 0)), (6, .one .nils), (7, .one (.int .i64 0)), (8, .one (.int .i64 0)), (9, .one (.row 2 v)), (10, .one (.list .str (spB 10 s))), (11, .one (.int .i64 (k : Int)))], L := [.vars 24 [.list .str xs], .vars 24 [.list .str ys], .row (.pair (.list (.int .i64)) (.pair (.list (.int .i64)) .unit)) 60 v R] }) ?_ ?_
 ·exact ⟨_, _, ak [3, 4, 6, 7, 8, 9, 10, 11], 0, 0, [], by omega, by simp, by simp, uo hb0 (by omega), rfl, rfl⟩
 rintro n13 s13 ⟨k, v, R, hk, hRk, hR1, hPG, rfl, rfl⟩
 refine V fun _ k14 => ?_
 refine V fun _ k15 => ?_
 refine a9 hP hN rfl ?_
 iterate 5 (refine Z rfl fun _ k0 => ?_; simp only [zO, zT, acs, reduceCtorEq, J, D, M, U, O, S]; (repeat refine And.intro (by first | omega | assumption | exact rfl | exact ⟨by omega, hne0 (by assumption)⟩) ?_); (try refine .inl ?_); apply k0; clear k0; simp only [zP, D])
 refine aa ?_
 apply k15; clear k15; refine kp [3, 4, 6, 7, 8, 9, 10, 11, 32] ?_
 refine cd (fun hc16 => ?_) (fun hc16 => ?_)
 ·(try simp only [zB, reduceCtorEq] at hc16)
  refine ag ?_
  apply k14; clear k14; refine kp [3, 4, 6, 7, 8, 9, 10, 11, 32] ?_
  refine V fun _ k17 => ?_
  refine au ?_
  refine V fun _ k18 => ?_
  refine V fun _ k19 => ?_
  have hll := ew 10 s k
  have hne0 : ¬ ((spB 10 s).getD k []) = [] → 0 < ((((spB 10 s).getD k [])).length : Int) := fun e => by have := List.length_pos_iff.2 e; omega
  refine a9 hP hN rfl ?_
  iterate 6 (refine Z rfl fun _ k0 => ?_; simp only [zO, zT, acs, reduceCtorEq, J, D, M, U, O, S]; (repeat refine And.intro (by first | omega | assumption | exact rfl | exact ⟨by omega, hne0 (by assumption)⟩) ?_); (try refine .inl ?_); apply k0; clear k0; simp only [zP, D])
  refine' aB (want := false) 6 rfl (m := 40) (by simp only [zP, J, D]; exact rfl) (by kernel_rfl) rfl rfl rfl rfl rfl (fun hg20 => ?a20) ?b20 ?c20
  case a20 =>
   have hq20 := hg20; (try simp only [zB, reduceCtorEq] at hg20); simp only [zE]
   iterate 6 (refine aL rfl fun _ k0 => ?_; simp only [zO, zT, acs, reduceCtorEq, J, D, M, U, O, S]; (repeat refine And.intro (by first | omega | assumption | exact rfl | exact ⟨by omega, hne0 (by assumption)⟩) ?_); (try refine .inl ?_); apply k0; clear k0; simp only [zP, D])
   (refine Z rfl fun _ k0 => ?_; simp only [zO, zT, acs, reduceCtorEq, J, D, M, U, O, S]; (repeat refine And.intro (by first | omega | assumption | exact rfl | exact ⟨by omega, hne0 (by assumption)⟩) ?_); (try refine .inl ?_); apply k0; clear k0; simp only [zP, D])
   refine aa ?_
   refine ⟨by simp only [zP, J, D]; exact rfl, rfl, ?_, rfl⟩; (repeat refine aA rfl ?_); exact aN (by exact rfl) hq20
  case b20 => exact bc
  simp only [aK, aF]
  refine aa ?_
  apply k19; clear k19; refine kp [3, 4, 6, 7, 8, 9, 10, 11, 32, 47] ?_
  refine cd (fun hc21 => ?_) (fun hc21 => ?_)
  ·(try simp only [zB, reduceCtorEq] at hc21)
   have hsk := hc21
   have hsk2 : skL ((spB 10 s).getD k []) := hsk.imp id lh.1
   refine aR ?_
   apply k17; clear k17; refine kp [3, 4, 6, 7, 8, 9, 10, 11, 32, 47] ?_
   first | (refine kp [3, 4, 6, 7, 8, 9, 10, 11] ?_; refine aC (L1 := [_, _, _]) rfl (by rw [hB]; exact Nat.zero_le _) rfl rfl ?_) | skip
   refine a9 hP hN rfl ?_
   iterate 3 (refine Z rfl fun _ k0 => ?_; simp only [zO, zT, acs, reduceCtorEq, J, D, M, U, O, S]; (repeat refine And.intro (by first | omega | assumption | exact rfl | exact ⟨by omega, hne0 (by assumption)⟩) ?_); (try refine .inl ?_); apply k0; clear k0; simp only [zP, D])
   refine aa ?_
   first
   | (refine ⟨_, _, ?_, ak [3, 4, 6, 7, 8, 9, 10, 11], k + 1, v, R, by omega, by omega, by omega, hPG.trans (gX (by omega) hsk2), rfl, rfl⟩
      omega)
   | (refine ⟨_, _, ?_, ak [3, 4, 6, 7, 8, 9, 10, 11], k + 1, v + 1, R ++ [(eY xs ys ((spB 10 s).getD k []))], by omega, by rw [aj]; simp only [ad, aq]; omega, by rw [aj]; simp only [ad, aq]; omega, hPG.trans (kj (by omega) hns2 ((bW hw9 (by omega)).trans (by omega))), rfl, rfl⟩
      omega)
  (try simp only [zB, reduceCtorEq] at hc21)
  have hns := hc21
  have hns2 : ¬ skL ((spB 10 s).getD k []) := fun h => h.elim hns.1 (fun e => hns.2 (lh.2 e))
  have hne := hns.1
  refine ag ?_
  apply k18; clear k18; refine kp [3, 4, 6, 7, 8, 9, 10, 11, 32, 47] ?_
  refine V fun _ k22 => ?_
  refine a9 hP hN rfl ?_
  iterate 4 (refine Z rfl fun _ k0 => ?_; simp only [zO, zT, acs, reduceCtorEq, J, D, M, U, O, S]; (repeat refine And.intro (by first | omega | assumption | exact rfl | exact ⟨by omega, hne0 (by assumption)⟩) ?_); (try refine .inl ?_); apply k0; clear k0; simp only [zP, D])
  refine Z rfl fun _ k0 => ?_
  refine ar (h := ae (si ((spB 10 s).getD k []) hne (by omega))) rfl rfl (by first | exact rfl | (simp only [ev, zP, J, D]; exact rfl)) (by simp only [zV, acs, reduceCtorEq, J, D, M, U, O, S]) ?_
  apply k0; clear k0; simp only [zP, D]
  iterate 5 (refine Z rfl fun _ k0 => ?_; simp only [zO, zT, acs, reduceCtorEq, J, D, M, U, O, S]; (repeat refine And.intro (by first | omega | assumption | exact rfl | exact ⟨by omega, hne0 (by assumption)⟩) ?_); (try refine .inl ?_); apply k0; clear k0; simp only [zP, D])
  refine aa ?_
  apply k22; clear k22; refine kp [3, 4, 6, 7, 8, 9, 10, 11, 12, 13, 32, 47] ?_
  refine V fun _ k23 => ?_
  refine V fun _ k24 => ?_
  refine a9 hP hN rfl ?_
  iterate 2 (refine Z rfl fun _ k0 => ?_; simp only [zO, zT, acs, reduceCtorEq, J, D, M, U, O, S]; (repeat refine And.intro (by first | omega | assumption | exact rfl | exact ⟨by omega, hne0 (by assumption)⟩) ?_); (try refine .inl ?_); apply k0; clear k0; simp only [zP, D])
  refine aa ?_
  apply k24; clear k24; refine kp [3, 4, 6, 7, 8, 9, 10, 11, 12, 13, 32, 47, 57] ?_
  refine cd (fun hc25 => ?_) (fun hc25 => ?_)
  ·(try simp only [zB, reduceCtorEq] at hc25)
   have hw9 : [] ∈ spB 32 ((spB 10 s).getD k []) := by simpa using hc25
   refine V fun _ k26 => ?_
   refine a9 hP hN rfl ?_
   iterate 5 (refine Z rfl fun _ k0 => ?_; simp only [zO, zT, acs, reduceCtorEq, J, D, M, U, O, S]; (repeat refine And.intro (by first | omega | assumption | exact rfl | exact ⟨by omega, hne0 (by assumption)⟩) ?_); (try refine .inl ?_); apply k0; clear k0; simp only [zP, D])
   refine aa ?_
   apply k26; clear k26; refine kp [3, 4, 6, 7, 8, 9, 10, 11, 12, 13, 32, 47, 57] ?_
   refine ah ?_
   refine ⟨nr, _, rfl, ?_⟩; simp only [zF, zP, J, D]
   first
   | (rw [gB hb0]; exact aT ⟨aZ (aE rfl), fun _ _ _ _ _ h => h, fun _ _ _ _ _ h => h, trivial⟩)
   | (rw [hPG, bj (by omega) hns2 (by rw [dA hw9]; decide), dA hw9]; exact aT ⟨aZ (aE rfl), fun _ _ _ _ _ h => h, fun _ _ _ _ _ h => h, trivial⟩)
   | (rw [hPG, bj (by omega) hns2 (by rw [bQ hw9 (by omega)]; decide), bQ hw9 (by omega)]; exact aT ⟨aZ (aE rfl), fun _ _ _ _ _ h => h, fun _ _ _ _ _ h => h, trivial⟩)
   | (rw [hPG, bj (by omega) hns2 (by rw [bW hw9 (by omega)]; exact hte), bW hw9 (by omega)]; exact aT ⟨aZ (aE rfl), fun _ _ _ _ _ h => h, fun _ _ _ _ _ h => h, trivial⟩)
   | (rw [hPG, br hkn, if_neg hla, show (k : Int) + 1 = ((spB 10 s).length : Int) by omega]; exact aT ⟨aZ (aE rfl), fun _ _ _ _ _ h => h, fun _ _ _ _ _ h => h, trivial⟩)
   | (rw [hPG, br hkn, if_pos hla]; exact VLE.of_eq rfl)
  (try simp only [zB, reduceCtorEq] at hc25)
  have hw9 : [] ∉ spB 32 ((spB 10 s).getD k []) := by simpa using hc25
  rw [if_neg hw9]
  refine ag ?_
  apply k23; clear k23; refine kp [3, 4, 6, 7, 8, 9, 10, 11, 12, 13, 32, 47, 57] ?_
  refine V fun _ k27 => ?_
  refine V fun _ k28 => ?_
  refine a9 hP hN rfl ?_
  iterate 3 (refine Z rfl fun _ k0 => ?_; simp only [zO, zT, acs, reduceCtorEq, J, D, M, U, O, S]; (repeat refine And.intro (by first | omega | assumption | exact rfl | exact ⟨by omega, hne0 (by assumption)⟩) ?_); (try refine .inl ?_); apply k0; clear k0; simp only [zP, D])
  refine aa ?_
  apply k28; clear k28; refine kp [3, 4, 6, 7, 8, 9, 10, 11, 12, 13, 32, 47, 57, 62] ?_
  refine cd (fun hc29 => ?_) (fun hc29 => ?_)
  ·(try simp only [zB, reduceCtorEq] at hc29)
   have hlim := hc29
   refine V fun _ k30 => ?_
   refine a9 hP hN rfl ?_
   iterate 5 (refine Z rfl fun _ k0 => ?_; simp only [zO, zT, acs, reduceCtorEq, J, D, M, U, O, S]; (repeat refine And.intro (by first | omega | assumption | exact rfl | exact ⟨by omega, hne0 (by assumption)⟩) ?_); (try refine .inl ?_); apply k0; clear k0; simp only [zP, D])
   refine aa ?_
   apply k30; clear k30; refine kp [3, 4, 6, 7, 8, 9, 10, 11, 12, 13, 32, 47, 57, 62] ?_
   refine ah ?_
   refine ⟨nr, _, rfl, ?_⟩; simp only [zF, zP, J, D]
   first
   | (rw [gB hb0]; exact aT ⟨aZ (aE rfl), fun _ _ _ _ _ h => h, fun _ _ _ _ _ h => h, trivial⟩)
   | (rw [hPG, bj (by omega) hns2 (by rw [dA hw9]; decide), dA hw9]; exact aT ⟨aZ (aE rfl), fun _ _ _ _ _ h => h, fun _ _ _ _ _ h => h, trivial⟩)
   | (rw [hPG, bj (by omega) hns2 (by rw [bQ hw9 (by omega)]; decide), bQ hw9 (by omega)]; exact aT ⟨aZ (aE rfl), fun _ _ _ _ _ h => h, fun _ _ _ _ _ h => h, trivial⟩)
   | (rw [hPG, bj (by omega) hns2 (by rw [bW hw9 (by omega)]; exact hte), bW hw9 (by omega)]; exact aT ⟨aZ (aE rfl), fun _ _ _ _ _ h => h, fun _ _ _ _ _ h => h, trivial⟩)
   | (rw [hPG, br hkn, if_neg hla, show (k : Int) + 1 = ((spB 10 s).length : Int) by omega]; exact aT ⟨aZ (aE rfl), fun _ _ _ _ _ h => h, fun _ _ _ _ _ h => h, trivial⟩)
   | (rw [hPG, br hkn, if_pos hla]; exact VLE.of_eq rfl)
  (try simp only [zB, reduceCtorEq] at hc29)
  have hlim := hc29
  refine ag ?_
  apply k27; clear k27; refine kp [3, 4, 6, 7, 8, 9, 10, 11, 12, 13, 32, 47, 57, 62] ?_
  refine V fun _ k31 => ?_
  refine a9 hP hN rfl ?_
  iterate 3 (refine Z rfl fun _ k0 => ?_; simp only [zO, zT, acs, reduceCtorEq, J, D, M, U, O, S]; (repeat refine And.intro (by first | omega | assumption | exact rfl | exact ⟨by omega, hne0 (by assumption)⟩) ?_); (try refine .inl ?_); apply k0; clear k0; simp only [zP, D])
  refine Z rfl fun _ k0 => ?_
  refine ar (h := ae (oO xs ys ((spB 10 s).getD k []) (by omega))) rfl rfl (by first | exact rfl | (simp only [ev, zP, J, D]; exact rfl)) (by simp only [zV, acs, reduceCtorEq, J, D, M, U, O, S]) ?_
  apply k0; clear k0; simp only [zP, D]
  iterate 6 (refine Z rfl fun _ k0 => ?_; simp only [zO, zT, acs, reduceCtorEq, J, D, M, U, O, S]; (repeat refine And.intro (by first | omega | assumption | exact rfl | exact ⟨by omega, hne0 (by assumption)⟩) ?_); (try refine .inl ?_); apply k0; clear k0; simp only [zP, D])
  refine aa ?_
  apply k31; clear k31; refine kp [3, 4, 6, 7, 8, 9, 10, 11, 12, 13, 14, 15, 32, 47, 57, 62] ?_
  refine V fun _ k32 => ?_
  refine V fun _ k33 => ?_
  refine a9 hP hN rfl ?_
  iterate 2 (refine Z rfl fun _ k0 => ?_; simp only [zO, zT, acs, reduceCtorEq, J, D, M, U, O, S]; (repeat refine And.intro (by first | omega | assumption | exact rfl | exact ⟨by omega, hne0 (by assumption)⟩) ?_); (try refine .inl ?_); apply k0; clear k0; simp only [zP, D])
  refine aa ?_
  apply k33; clear k33; refine kp [3, 4, 6, 7, 8, 9, 10, 11, 12, 13, 14, 15, 32, 47, 57, 62, 73] ?_
  refine cd (fun hc34 => ?_) (fun hc34 => ?_)
  ·(try simp only [zB, reduceCtorEq] at hc34)
   have hte := hc34
   refine V fun _ k35 => ?_
   refine a9 hP hN rfl ?_
   iterate 6 (refine Z rfl fun _ k0 => ?_; simp only [zO, zT, acs, reduceCtorEq, J, D, M, U, O, S]; (repeat refine And.intro (by first | omega | assumption | exact rfl | exact ⟨by omega, hne0 (by assumption)⟩) ?_); (try refine .inl ?_); apply k0; clear k0; simp only [zP, D])
   refine aa ?_
   apply k35; clear k35; refine kp [3, 4, 6, 7, 8, 9, 10, 11, 12, 13, 14, 15, 32, 47, 57, 62, 73] ?_
   refine ah ?_
   refine ⟨nr, _, rfl, ?_⟩; simp only [zF, zP, J, D]
   first
   | (rw [gB hb0]; exact aT ⟨aZ (aE rfl), fun _ _ _ _ _ h => h, fun _ _ _ _ _ h => h, trivial⟩)
   | (rw [hPG, bj (by omega) hns2 (by rw [dA hw9]; decide), dA hw9]; exact aT ⟨aZ (aE rfl), fun _ _ _ _ _ h => h, fun _ _ _ _ _ h => h, trivial⟩)
   | (rw [hPG, bj (by omega) hns2 (by rw [bQ hw9 (by omega)]; decide), bQ hw9 (by omega)]; exact aT ⟨aZ (aE rfl), fun _ _ _ _ _ h => h, fun _ _ _ _ _ h => h, trivial⟩)
   | (rw [hPG, bj (by omega) hns2 (by rw [bW hw9 (by omega)]; exact hte), bW hw9 (by omega)]; exact aT ⟨aZ (aE rfl), fun _ _ _ _ _ h => h, fun _ _ _ _ _ h => h, trivial⟩)
   | (rw [hPG, br hkn, if_neg hla, show (k : Int) + 1 = ((spB 10 s).length : Int) by omega]; exact aT ⟨aZ (aE rfl), fun _ _ _ _ _ h => h, fun _ _ _ _ _ h => h, trivial⟩)
   | (rw [hPG, br hkn, if_pos hla]; exact VLE.of_eq rfl)
  (try simp only [zB, reduceCtorEq] at hc34)
  have hte := hc34
  refine ag ?_
  apply k32; clear k32; refine kp [3, 4, 6, 7, 8, 9, 10, 11, 12, 13, 14, 15, 32, 47, 57, 62, 73] ?_
  refine a9 hP hN rfl ?_
  iterate 5 (refine Z rfl fun _ k0 => ?_; simp only [zO, zT, acs, reduceCtorEq, J, D, M, U, O, S]; (repeat refine And.intro (by first | omega | assumption | exact rfl | exact ⟨by omega, hne0 (by assumption)⟩) ?_); (try refine .inl ?_); apply k0; clear k0; simp only [zP, D])
  refine aa ?_
  apply k17; clear k17; refine kp [3, 4, 6, 7, 8, 9, 10, 11, 12, 13, 14, 15, 32, 47, 57, 62, 73] ?_
  first | (refine kp [3, 4, 6, 7, 8, 9, 10, 11] ?_; refine aC (L1 := [_, _, _]) rfl (by rw [hB]; exact Nat.zero_le _) rfl rfl ?_) | skip
  refine a9 hP hN rfl ?_
  iterate 3 (refine Z rfl fun _ k0 => ?_; simp only [zO, zT, acs, reduceCtorEq, J, D, M, U, O, S]; (repeat refine And.intro (by first | omega | assumption | exact rfl | exact ⟨by omega, hne0 (by assumption)⟩) ?_); (try refine .inl ?_); apply k0; clear k0; simp only [zP, D])
  refine aa ?_
  first
  | (refine ⟨_, _, ?_, ak [3, 4, 6, 7, 8, 9, 10, 11], k + 1, v, R, by omega, by omega, by omega, hPG.trans (gX (by omega) hsk2), rfl, rfl⟩
     omega)
  | (refine ⟨_, _, ?_, ak [3, 4, 6, 7, 8, 9, 10, 11], k + 1, v + 1, R ++ [(eY xs ys ((spB 10 s).getD k []))], by omega, by rw [aj]; simp only [ad, aq]; omega, by rw [aj]; simp only [ad, aq]; omega, hPG.trans (kj (by omega) hns2 ((bW hw9 (by omega)).trans (by omega))), rfl, rfl⟩
     omega)
 (try simp only [zB, reduceCtorEq] at hc16)
 refine aR ?_
 apply k11; clear k11; refine kp [3, 4, 6, 7, 8, 9, 10, 11, 32] ?_
 refine V fun _ k36 => ?_
 refine V fun _ k37 => ?_
 have hkn : k + 1 = (spB 10 s).length := by omega
 have hto : (((spB 10 s).length : Int) - 1).toNat = k := by omega
 refine a9 hP hN rfl ?_
 iterate 7 (refine Z rfl fun _ k0 => ?_; simp only [zO, zT, acs, reduceCtorEq, J, D, M, U, O, S, hto]; (repeat refine And.intro (by first | omega | assumption | exact rfl | exact ⟨by omega, hne0 (by assumption)⟩) ?_); (try refine .inl ?_); apply k0; clear k0; simp only [zP, D])
 refine aa ?_
 apply k37; clear k37; refine kp [3, 4, 6, 7, 8, 9, 10, 11, 32, 87] ?_
 refine cd (fun hc38 => ?_) (fun hc38 => ?_)
 ·(try simp only [zB, reduceCtorEq] at hc38)
  have hla := hc38
  refine V fun _ k39 => ?_
  refine a9 hP hN rfl ?_
  iterate 5 (refine Z rfl fun _ k0 => ?_; simp only [zO, zT, acs, reduceCtorEq, J, D, M, U, O, S]; (repeat refine And.intro (by first | omega | assumption | exact rfl | exact ⟨by omega, hne0 (by assumption)⟩) ?_); (try refine .inl ?_); apply k0; clear k0; simp only [zP, D])
  refine aa ?_
  apply k39; clear k39; refine kp [3, 4, 6, 7, 8, 9, 10, 11, 32, 87] ?_
  refine ah ?_
  refine ⟨nr, _, rfl, ?_⟩; simp only [zF, zP, J, D]
  first
  | (rw [gB hb0]; exact aT ⟨aZ (aE rfl), fun _ _ _ _ _ h => h, fun _ _ _ _ _ h => h, trivial⟩)
  | (rw [hPG, bj (by omega) hns2 (by rw [dA hw9]; decide), dA hw9]; exact aT ⟨aZ (aE rfl), fun _ _ _ _ _ h => h, fun _ _ _ _ _ h => h, trivial⟩)
  | (rw [hPG, bj (by omega) hns2 (by rw [bQ hw9 (by omega)]; decide), bQ hw9 (by omega)]; exact aT ⟨aZ (aE rfl), fun _ _ _ _ _ h => h, fun _ _ _ _ _ h => h, trivial⟩)
  | (rw [hPG, bj (by omega) hns2 (by rw [bW hw9 (by omega)]; exact hte), bW hw9 (by omega)]; exact aT ⟨aZ (aE rfl), fun _ _ _ _ _ h => h, fun _ _ _ _ _ h => h, trivial⟩)
  | (rw [hPG, br hkn, if_neg hla, show (k : Int) + 1 = ((spB 10 s).length : Int) by omega]; exact aT ⟨aZ (aE rfl), fun _ _ _ _ _ h => h, fun _ _ _ _ _ h => h, trivial⟩)
  | (rw [hPG, br hkn, if_pos hla]; exact VLE.of_eq rfl)
 (try simp only [zB, reduceCtorEq] at hc38)
 have hla := hc38
 refine ag ?_
 apply k36; clear k36; refine kp [3, 4, 6, 7, 8, 9, 10, 11, 32, 87] ?_
 refine V fun _ k40 => ?_
 refine a9 hP hN rfl ?_
 iterate 4 (refine Z rfl fun _ k0 => ?_; simp only [zO, zT, acs, reduceCtorEq, J, D, M, U, O, S]; (repeat refine And.intro (by first | omega | assumption | exact rfl | exact ⟨by omega, hne0 (by assumption)⟩) ?_); (try refine .inl ?_); apply k0; clear k0; simp only [zP, D])
 refine aa ?_
 apply k40; clear k40; refine kp [3, 4, 6, 7, 8, 9, 10, 11, 32, 87] ?_
 refine ah ?_
 refine ⟨nr, _, rfl, ?_⟩; simp only [zF, zP, J, D]
 first
 | (rw [gB hb0]; exact aT ⟨aZ (aE rfl), fun _ _ _ _ _ h => h, fun _ _ _ _ _ h => h, trivial⟩)
 | (rw [hPG, bj (by omega) hns2 (by rw [dA hw9]; decide), dA hw9]; exact aT ⟨aZ (aE rfl), fun _ _ _ _ _ h => h, fun _ _ _ _ _ h => h, trivial⟩)
 | (rw [hPG, bj (by omega) hns2 (by rw [bQ hw9 (by omega)]; decide), bQ hw9 (by omega)]; exact aT ⟨aZ (aE rfl), fun _ _ _ _ _ h => h, fun _ _ _ _ _ h => h, trivial⟩)
 | (rw [hPG, bj (by omega) hns2 (by rw [bW hw9 (by omega)]; exact hte), bW hw9 (by omega)]; exact aT ⟨aZ (aE rfl), fun _ _ _ _ _ h => h, fun _ _ _ _ _ h => h, trivial⟩)
 | (rw [hPG, br hkn, if_neg hla, show (k : Int) + 1 = ((spB 10 s).length : Int) by omega]; exact aT ⟨aZ (aE rfl), fun _ _ _ _ _ h => h, fun _ _ _ _ _ h => h, trivial⟩)
 | (rw [hPG, br hkn, if_pos hla]; exact VLE.of_eq rfl)
set_option maxHeartbeats 1000000 in
theorem ub {o : Obj} (hmx : MXL o) (xs ys : List Bs) (s : Bs) : cF Tryd.prog [.fact 0 o] 3 [.agg [.list .str xs], .agg [.list .str ys], .one (.str s)] { av := .one (.bool true), fp := [0] } := by
 refine cS _ _ Tryd.func3 rfl (by kernel_rfl) (Nat.le_of_ble_eq_true rfl) (by intro k hk; simp only [ad, aq, Nat.zero_add, D] at hk; simp only [List.mem_cons, List.not_mem_nil, or_false]; omega) (fun C hP hN hB => ?_)
 replace hB : C.bL.length = 1 := by rw [hB]; rfl
 replace hN : C.N = 57 := hN
 simp only [aH, D]
 refine V fun _ k1 => ?_
 refine a9 hP hN rfl ?_
 iterate 3 (refine Z rfl fun _ k0 => ?_; simp only [zO, zT, acs, reduceCtorEq, J, D, M, U, O, S]; (repeat refine an ?_); (try refine .inl ?_); apply k0; clear k0; simp only [zP, D])
 refine aa ?_
 apply k1; clear k1; refine kp [0, 1, 2, 3, 4, 6] ?_
 refine V fun _ k2 => ?_
 refine V fun _ k3 => ?_
 refine a9 hP hN rfl ?_
 (refine Z rfl fun _ k0 => ?_; simp only [zO, zT, acs, reduceCtorEq, J, D, M, U, O, S]; (repeat refine an ?_); (try refine .inl ?_); apply k0; clear k0; simp only [zP, D])
 refine Z rfl fun _ k0 => ?_
 refine ar (h := ae (lC xs)) rfl rfl (by first | exact rfl | (simp only [ev, zP, J, D]; exact rfl)) (by simp only [zV, acs, reduceCtorEq, J, D, M, U, O, S]) ?_
 apply k0; clear k0; simp only [zP, D]
 (refine Z rfl fun _ k0 => ?_; simp only [zO, zT, acs, reduceCtorEq, J, D, M, U, O, S]; (repeat refine an ?_); (try refine .inl ?_); apply k0; clear k0; simp only [zP, D])
 refine' aB (want := false) 2 rfl (m := 15) (by simp only [zP, J, D]; exact rfl) (by kernel_rfl) rfl rfl rfl rfl rfl (fun hg4 => ?a4) ?b4 ?c4
 case a4 =>
  have hq4 := hg4; (try simp only [zB, reduceCtorEq] at hg4); simp only [zE]
  (refine aL rfl fun _ k0 => ?_; simp only [zO, zT, acs, reduceCtorEq, J, D, M, U, O, S]; (repeat refine an ?_); (try refine .inl ?_); apply k0; clear k0; simp only [zP, D])
  refine aL rfl fun _ k0 => ?_
  refine ar (h := ae (lC ys)) rfl rfl (by first | exact rfl | (simp only [ev, zP, J, D]; exact rfl)) (by simp only [zV, acs, reduceCtorEq, J, D, M, U, O, S]) ?_
  apply k0; clear k0; simp only [zP, D]
  (refine Z rfl fun _ k0 => ?_; simp only [zO, zT, acs, reduceCtorEq, J, D, M, U, O, S]; (repeat refine an ?_); (try refine .inl ?_); apply k0; clear k0; simp only [zP, D])
  refine aa ?_
  refine ⟨by simp only [zP, J, D]; exact rfl, rfl, ?_, rfl⟩; (repeat refine aA rfl ?_); exact aN (by exact rfl) hq4
 case b4 => exact bc
 simp only [aK, aF]
 (refine Z rfl fun _ k0 => ?_; simp only [zO, zT, acs, reduceCtorEq, J, D, M, U, O, S]; (repeat refine an ?_); (try refine .inl ?_); apply k0; clear k0; simp only [zP, D])
 refine' aB (want := false) 3 rfl (m := 19) (by simp only [zP, J, D]; exact rfl) (by kernel_rfl) rfl rfl rfl rfl rfl (fun hg5 => ?a5) ?b5 ?c5
 case a5 =>
  have hq5 := hg5; (try simp only [zB, reduceCtorEq] at hg5); simp only [zE]
  iterate 3 (refine aL rfl fun _ k0 => ?_; simp only [zO, zT, acs, reduceCtorEq, J, D, M, U, O, S]; (repeat refine an ?_); (try refine .inl ?_); apply k0; clear k0; simp only [zP, D])
  (refine Z rfl fun _ k0 => ?_; simp only [zO, zT, acs, reduceCtorEq, J, D, M, U, O, S]; (repeat refine an ?_); (try refine .inl ?_); apply k0; clear k0; simp only [zP, D])
  refine aa ?_
  refine ⟨by simp only [zP, J, D]; exact rfl, rfl, ?_, rfl⟩; (repeat refine aA rfl ?_); exact aN (by exact rfl) hq5
 case b5 => exact bc
 simp only [aK, aF]
 refine aa ?_
 apply k3; clear k3; refine kp [0, 1, 2, 3, 4, 6, 23] ?_
 refine cd (fun hc6 => ?_) (fun hc6 => ?_)
 ·(try simp only [zB, reduceCtorEq] at hc6)
  refine V fun _ k7 => ?_
  refine a9 hP hN rfl ?_
  refine Z rfl fun _ k0 => ?_
  refine ar (h := dk (li hmx) rfl) rfl rfl (by first | exact rfl | (simp only [ev, zP, J, D]; exact rfl)) (by simp only [zV, acs, reduceCtorEq, J, D, M, U, O, S]) ?_
  apply k0; clear k0; simp only [zP, D]
  (refine Z rfl fun _ k0 => ?_; simp only [zO, zT, acs, reduceCtorEq, J, D, M, U, O, S]; (repeat refine an ?_); (try refine .inl ?_); apply k0; clear k0; simp only [zP, D])
  refine aa ?_
  apply k7; clear k7; refine kp [0, 1, 2, 3, 4, 6, 23] ?_
  refine kp [6] ?_
  first
  | ((refine aC (L1 := [_, _]) rfl (by rw [hB]; exact Nat.succ_le_succ (Nat.zero_le _)) rfl rfl ?_); (refine aC (L1 := [_]) rfl (by rw [hB]; exact Nat.succ_le_succ (Nat.zero_le _)) rfl rfl ?_))
  refine ah ?_
  refine ⟨by first | exact .inl rfl | exact .inr rfl, _, rfl, ?_⟩; simp only [zP, J, D]
  all_goals (first | rfl | (refine congrArg (fun b => AV.one (AC.bool b)) ?_; simp; done) | (refine congrArg (fun b => AV.one (AC.bool b)) ?_; simp_all; done))
 (try simp only [zB, reduceCtorEq] at hc6)
 have hgx : grB xs = false := by have h9 := hc6; revert h9; cases grB xs <;> simp
 have hgy : grB ys = false := by have h9 := hc6; revert h9; cases grB ys <;> simp
 have hx : ∀ k, k < xs.length → (xs.getD k []).length ≤ 1048576 := fun k hk => by have := (rT hgx).2 k hk; omega
 have hy : ∀ k, k < ys.length → (ys.getD k []).length ≤ 1048576 := fun k hk => by have := (rT hgy).2 k hk; omega
 have hs9 : s.length ≤ 2000 := by have h9 := hc6; rw [hgx, hgy] at h9; simp at h9; omega
 refine ag ?_
 apply k2; clear k2; refine kp [0, 1, 2, 3, 4, 6, 23] ?_
 refine V fun _ k8 => ?_
 refine a9 hP hN rfl ?_
 iterate 3 (refine Z rfl fun _ k0 => ?_; simp only [zO, zT, acs, reduceCtorEq, J, D, M, U, O, S]; (repeat refine an ?_); (try refine .inl ?_); apply k0; clear k0; simp only [zP, D])
 refine Z rfl fun _ k0 => ?_
 refine ar (h := dk (gZ hmx xs ys s (by omega)) rfl) rfl rfl (by first | exact rfl | (simp only [ev, zP, J, D]; exact rfl)) (by simp only [zV, acs, reduceCtorEq, J, D, M, U, O, S]) ?_
 apply k0; clear k0; simp only [zP, D]
 iterate 7 (refine Z rfl fun _ k0 => ?_; simp only [zO, zT, acs, reduceCtorEq, J, D, M, U, O, S]; (repeat refine an ?_); (try refine .inl ?_); apply k0; clear k0; simp only [zP, D])
 refine aa ?_
 apply k8; clear k8; refine kp [0, 1, 2, 3, 4, 6, 7, 8, 9, 23] ?_
 refine V fun _ k9 => ?_
 refine a9 hP hN rfl ?_
 iterate 3 (refine Z rfl fun _ k0 => ?_; simp only [zO, zT, acs, reduceCtorEq, J, D, M, U, O, S]; (repeat refine an ?_); (try refine .inl ?_); apply k0; clear k0; simp only [zP, D])
 refine Z rfl fun _ k0 => ?_
 refine ar (h := ae (pG xs ys s hx hy (by omega))) rfl rfl (by first | exact rfl | (simp only [ev, zP, J, D]; exact rfl)) (by simp only [zV, acs, reduceCtorEq, J, D, M, U, O, S]) ?_
 apply k0; clear k0; simp only [zP, D]
 iterate 7 (refine Z rfl fun _ k0 => ?_; simp only [zO, zT, acs, reduceCtorEq, J, D, M, U, O, S]; (repeat refine an ?_); (try refine .inl ?_); apply k0; clear k0; simp only [zP, D])
 refine aa ?_
 apply k9; clear k9; refine kp [0, 1, 2, 3, 4, 6, 7, 8, 9, 10, 11, 12, 23] ?_
 refine V fun _ k10 => ?_
 refine a9 hP hN rfl ?_
 iterate 2 (refine Z rfl fun _ k0 => ?_; simp only [zO, zT, acs, reduceCtorEq, J, D, M, U, O, S]; (repeat refine an ?_); (try refine .inl ?_); apply k0; clear k0; simp only [zP, D])
 refine Z rfl fun _ k0 => ?_
 refine ar (h := ae (lZ (PG xs ys s).1 (PG xs ys s).1)) rfl rfl (by first | exact rfl | (simp only [ev, zP, J, D]; exact rfl)) (by simp only [zV, acs, reduceCtorEq, J, D, M, U, O, S]) ?_
 apply k0; clear k0; simp only [zP, D]
 (refine Z rfl fun _ k0 => ?_; simp only [zO, zT, acs, reduceCtorEq, J, D, M, U, O, S]; (repeat refine an ?_); (try refine .inl ?_); apply k0; clear k0; simp only [zP, D])
 refine' aB (want := true) 3 rfl (m := 44) (by simp only [zP, J, D]; exact rfl) (by kernel_rfl) rfl rfl rfl rfl rfl (fun hg11 => ?a11) ?b11 ?c11
 case a11 =>
  have hq11 := hg11; (try simp only [zB, reduceCtorEq] at hg11); simp only [zE]
  iterate 3 (refine aL rfl fun _ k0 => ?_; simp only [zO, zT, acs, reduceCtorEq, J, D, M, U, O, S]; (repeat refine an ?_); (try refine .inl ?_); apply k0; clear k0; simp only [zP, D])
  (refine Z rfl fun _ k0 => ?_; simp only [zO, zT, acs, reduceCtorEq, J, D, M, U, O, S]; (repeat refine an ?_); (try refine .inl ?_); apply k0; clear k0; simp only [zP, D])
  refine aa ?_
  refine ⟨by simp only [zP, J, D]; exact rfl, rfl, ?_, rfl⟩; (repeat refine aA rfl ?_); exact aN (by exact rfl) hq11
 case b11 => exact bc
 simp only [aK, aF]
 (refine Z rfl fun _ k0 => ?_; simp only [zO, zT, acs, reduceCtorEq, J, D, M, U, O, S]; (repeat refine an ?_); (try refine .inl ?_); apply k0; clear k0; simp only [zP, D])
 refine' aB (want := true) 3 rfl (m := 49) (by simp only [zP, J, D]; exact rfl) (by kernel_rfl) rfl rfl rfl rfl rfl (fun hg12 => ?a12) ?b12 ?c12
 case a12 =>
  have hq12 := hg12; (try simp only [zB, reduceCtorEq] at hg12); simp only [zE]
  iterate 3 (refine aL rfl fun _ k0 => ?_; simp only [zO, zT, acs, reduceCtorEq, J, D, M, U, O, S]; (repeat refine an ?_); (try refine .inl ?_); apply k0; clear k0; simp only [zP, D])
  (refine Z rfl fun _ k0 => ?_; simp only [zO, zT, acs, reduceCtorEq, J, D, M, U, O, S]; (repeat refine an ?_); (try refine .inl ?_); apply k0; clear k0; simp only [zP, D])
  refine aa ?_
  refine ⟨by simp only [zP, J, D]; exact rfl, rfl, ?_, rfl⟩; (repeat refine aA rfl ?_); exact aN (by exact rfl) hq12
 case b12 => exact bc
 simp only [aK, aF]
 (refine Z rfl fun _ k0 => ?_; simp only [zO, zT, acs, reduceCtorEq, J, D, M, U, O, S]; (repeat refine an ?_); (try refine .inl ?_); apply k0; clear k0; simp only [zP, D])
 refine' aB (want := true) 1 rfl (m := 54) (by simp only [zP, J, D]; exact rfl) (by kernel_rfl) rfl rfl rfl rfl rfl (fun hg13 => ?a13) ?b13 ?c13
 case a13 =>
  have hq13 := hg13; (try simp only [zB, reduceCtorEq] at hg13); simp only [zE]
  refine aL rfl fun _ k0 => ?_
  refine ar (h := dk (li hmx) rfl) rfl rfl (by first | exact rfl | (simp only [ev, zP, J, D]; exact rfl)) (by simp only [zV, acs, reduceCtorEq, J, D, M, U, O, S]) ?_
  apply k0; clear k0; simp only [zP, D]
  (refine Z rfl fun _ k0 => ?_; simp only [zO, zT, acs, reduceCtorEq, J, D, M, U, O, S]; (repeat refine an ?_); (try refine .inl ?_); apply k0; clear k0; simp only [zP, D])
  refine aa ?_
  refine ⟨by simp only [zP, J, D]; exact rfl, rfl, ?_, rfl⟩; (repeat refine aA rfl ?_); exact aN (by exact rfl) hq13
 case b13 => exact bc
 simp only [aK, aF]
 (refine Z rfl fun _ k0 => ?_; simp only [zO, zT, acs, reduceCtorEq, J, D, M, U, O, S]; (repeat refine an ?_); (try refine .inl ?_); apply k0; clear k0; simp only [zP, D])
 refine aa ?_
 apply k10; clear k10; refine kp [0, 1, 2, 3, 4, 6, 7, 8, 9, 10, 11, 12, 23] ?_
 refine kp [6] ?_
 first
 | ((refine aC (L1 := [_, _]) rfl (by rw [hB]; exact Nat.succ_le_succ (Nat.zero_le _)) rfl rfl ?_); (refine aC (L1 := [_]) rfl (by rw [hB]; exact Nat.succ_le_succ (Nat.zero_le _)) rfl rfl ?_))
 refine ah ?_
 refine ⟨by first | exact .inl rfl | exact .inr rfl, _, rfl, ?_⟩; simp only [zP, J, D]
 all_goals (first | rfl | (refine congrArg (fun b => AV.one (AC.bool b)) ?_; simp; done) | (refine congrArg (fun b => AV.one (AC.bool b)) ?_; simp_all; done))
end Go.Proofs.YtfakhaagbimljaaDoor
