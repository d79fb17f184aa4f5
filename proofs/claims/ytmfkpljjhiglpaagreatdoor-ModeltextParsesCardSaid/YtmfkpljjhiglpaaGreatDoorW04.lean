/- Contracts of functions of this seat, each out of a walk through its code, and plain facts on what they compute. Conditions: those that each theorem names. -/
import Derived.Test.YtmfkpljjhiglpaaGreatDoorW03
set_option linter.unusedSimpArgs false
set_option linter.unusedVariables false
set_option maxRecDepth 100000
namespace Go.Proofs.YtmfkpljjhiglpaaGreatDoor
open Go Go.AV
open Nat renaming reduceEqDiff → V, reduceAdd → O, reduceLeDiff → Z, reduceLT → ad, reduceMul → ab, reduceSub → aa
open List renaming set_cons_zero → bK, set_cons_succ → ba, getD_cons_zero → cM, length_append → aq, map_cons → aS, cons_append → am, map_nil → bM, length_cons → ak, nil_append → ar, take_succ_cons → bY, length_nil → aw, length_map → c0, length_replicate → aL, take_length → aD, mem_cons_self → aT, mem_cons_of_mem → aI
open Int renaming toNat_natCast → aN
theorem pL (a b : List Bs) : bH Tryz.prog 53 [.one (.list .str a), .one (.list .str b)] (.one (.bool (decide (a = b)))) := by
 refine aR Tryz.func53 rfl (by kernel_rfl) (Nat.le_of_ble_eq_true rfl) rfl fun C hP hN hB => ?_
 replace hN : C.N = 26 := hN
 simp only [aX, O]
 refine gx 0 rfl fun hf0 => ?_; simp only [lkp, if_true, if_false, reduceCtorEq, V, eq_self, Nat.one_ne_zero, Nat.zero_ne_one, lz, kw, kg, Fit, and_true, implies_true, true_and] at hf0
 refine af fun _ k1 => ?_
 refine ah hP hN rfl ?_
 (refine ae rfl fun _ k0 => ?_; simp only [zO, zT, acs, reduceCtorEq, V, O, Z, ad, ab, aa]; (repeat refine an ?_); (try refine .inl ?_); apply k0; clear k0; simp only [zP, O])
 refine ag ?_
 apply k1; clear k1; refine kp [0, 1, 4] ?_
 refine af fun _ k2 => ?_
 refine af fun _ k3 => ?_
 refine ah hP hN rfl ?_
 iterate 5 (refine ae rfl fun _ k0 => ?_; simp only [zO, zT, acs, reduceCtorEq, V, O, Z, ad, ab, aa]; (repeat refine an ?_); (try refine .inl ?_); apply k0; clear k0; simp only [zP, O])
 refine ag ?_
 apply k3; clear k3; refine kp [0, 1, 4, 10] ?_
 refine cd (fun hc4 => ?_) (fun hc4 => ?_)
 ·(try simp only [zB, reduceCtorEq] at hc4)
  have hle : ¬ a.length = b.length := by omega
  refine af fun _ k5 => ?_
  refine ah hP hN rfl ?_
  (refine ae rfl fun _ k0 => ?_; simp only [zO, zT, acs, reduceCtorEq, V, O, Z, ad, ab, aa]; (repeat refine an ?_); (try refine .inl ?_); apply k0; clear k0; simp only [zP, O])
  refine ag ?_
  apply k5; clear k5; refine kp [0, 1, 4, 10] ?_
  refine ax ?_
  refine ⟨nr, _, rfl, ?_⟩; simp only [zF, zP, V, O]
  refine VLE.of_eq ?_
  refine congrArg (fun b => AV.one (AC.bool b)) ?_
  symm
  first
  | exact decide_eq_false fun e => hle (by rw [e])
  | exact decide_eq_false fun e => hne (by rw [e])
  | exact decide_eq_true (ph hle fun q hq2 => hq q (by omega))
 (try simp only [zB, reduceCtorEq] at hc4)
 have hle : a.length = b.length := by omega
 refine ay ?_
 apply k2; clear k2; refine kp [0, 1, 4, 10] ?_
 refine af fun _ k6 => ?_
 refine af fun _ k7 => ?_
 refine ah hP hN rfl ?_
 (refine ae rfl fun _ k0 => ?_; simp only [zO, zT, acs, reduceCtorEq, V, O, Z, ad, ab, aa]; (repeat refine an ?_); (try refine .inl ?_); apply k0; clear k0; simp only [zP, O])
 refine ag ?_
 apply k7; clear k7; refine kp [0, 1, 4, 5, 10] ?_
 refine aE ?_
 refine bn (fun n8 s8 => ∃ (k : Nat), (k ≤ a.length) ∧ (∀ q, q < k → a.getD q [] = b.getD q []) ∧ n8 = a.length - k ∧ s8 = { env := [(0, .one (.list .str a)), (1, .one (.list .str b)), (4, .one (.bool false)), (5, .one (.int .i64 (k : Int)))], L := [] }) ?_ ?_
 ·exact ⟨_, _, aB [0, 1, 4, 5], 0, Nat.zero_le _, fun q hq => by omega, rfl, rfl⟩
 rintro n8 s8 ⟨k, hk, hq, rfl, rfl⟩
 refine af fun _ k9 => ?_
 refine af fun _ k10 => ?_
 refine ah hP hN rfl ?_
 iterate 4 (refine ae rfl fun _ k0 => ?_; simp only [zO, zT, acs, reduceCtorEq, V, O, Z, ad, ab, aa]; (repeat refine an ?_); (try refine .inl ?_); apply k0; clear k0; simp only [zP, O])
 refine ag ?_
 apply k10; clear k10; refine kp [0, 1, 4, 5, 14] ?_
 refine cd (fun hc11 => ?_) (fun hc11 => ?_)
 ·(try simp only [zB, reduceCtorEq] at hc11)
  refine ay ?_
  apply k9; clear k9; refine kp [0, 1, 4, 5, 14] ?_
  refine af fun _ k12 => ?_
  refine aE ?_
  refine af fun _ k13 => ?_
  refine bZ hP hN Tryz.mixed rfl ?_
  iterate 9 (refine ae rfl fun _ k0 => ?_; simp only [zO, zT, acs, reduceCtorEq, V, O, Z, ad, ab, aa]; (repeat refine an ?_); (try refine .inl ?_); apply k0; clear k0; simp only [zP, O])
  refine ag ?_
  refine ⟨by kernel_rfl, ?_⟩
  apply k13; clear k13; refine kp [0, 1, 4, 5, 14, 25] ?_
  refine cd (fun hc14 => ?_) (fun hc14 => ?_)
  ·(try simp only [zB, reduceCtorEq] at hc14)
   have hne : a.getD k [] ≠ b.getD k [] := by simpa using hc14
   refine af fun _ k15 => ?_
   refine ah hP hN rfl ?_
   (refine ae rfl fun _ k0 => ?_; simp only [zO, zT, acs, reduceCtorEq, V, O, Z, ad, ab, aa]; (repeat refine an ?_); (try refine .inl ?_); apply k0; clear k0; simp only [zP, O])
   refine ag ?_
   apply k15; clear k15; refine kp [0, 1, 4, 5, 14, 25] ?_
   refine ax ?_
   refine ⟨nr, _, rfl, ?_⟩; simp only [zF, zP, V, O]
   refine VLE.of_eq ?_
   refine congrArg (fun b => AV.one (AC.bool b)) ?_
   symm
   first
   | exact decide_eq_false fun e => hle (by rw [e])
   | exact decide_eq_false fun e => hne (by rw [e])
   | exact decide_eq_true (ph hle fun q hq2 => hq q (by omega))
  (try simp only [zB, reduceCtorEq] at hc14)
  have heq : a.getD k [] = b.getD k [] := by simpa using hc14
  refine ay ?_
  apply k12; clear k12; refine kp [0, 1, 4, 5, 14, 25] ?_
  refine ah hP hN rfl ?_
  iterate 3 (refine ae rfl fun _ k0 => ?_; simp only [zO, zT, acs, reduceCtorEq, V, O, Z, ad, ab, aa]; (repeat refine an ?_); (try refine .inl ?_); apply k0; clear k0; simp only [zP, O])
  refine ag ?_
  refine ⟨_, _, ?_, aB [0, 1, 4, 5], k + 1, by omega, fun q hq2 => ?_, rfl, rfl⟩
  · omega
  · by_cases e : q = k
    · rw [e]; exact heq
    · exact hq q (by omega)
 (try simp only [zB, reduceCtorEq] at hc11)
 refine bh ?_
 apply k6; clear k6; refine kp [0, 1, 4, 5, 14] ?_
 refine af fun _ k16 => ?_
 refine ah hP hN rfl ?_
 (refine ae rfl fun _ k0 => ?_; simp only [zO, zT, acs, reduceCtorEq, V, O, Z, ad, ab, aa]; (repeat refine an ?_); (try refine .inl ?_); apply k0; clear k0; simp only [zP, O])
 refine ag ?_
 apply k16; clear k16; refine kp [0, 1, 4, 5, 14] ?_
 refine ax ?_
 refine ⟨nr, _, rfl, ?_⟩; simp only [zF, zP, V, O]
 refine VLE.of_eq ?_
 refine congrArg (fun b => AV.one (AC.bool b)) ?_
 symm
 first
 | exact decide_eq_false fun e => hle (by rw [e])
 | exact decide_eq_false fun e => hne (by rw [e])
 | exact decide_eq_true (ph hle fun q hq2 => hq q (by omega))
theorem oQ (a b : List Bs) : bH Tryz.prog 34 [.agg [.list .str a], .agg [.list .str b]] (.one (.bool (decide (a = b)))) := by
 refine aR Tryz.func34 rfl (by kernel_rfl) (Nat.le_of_ble_eq_true rfl) rfl fun C hP hN hB => ?_
 replace hN : C.N = 10 := hN
 simp only [aX, O]
 refine af fun _ k1 => ?_
 refine ah hP hN rfl ?_
 iterate 3 (refine ae rfl fun _ k0 => ?_; simp only [zO, zT, acs, reduceCtorEq, V, O, Z, ad, ab, aa]; (repeat refine an ?_); (try refine .inl ?_); apply k0; clear k0; simp only [zP, O])
 refine ag ?_
 apply k1; clear k1; refine kp [0, 1, 2, 3, 4] ?_
 refine af fun _ k2 => ?_
 refine ah hP hN rfl ?_
 iterate 4 (refine ae rfl fun _ k0 => ?_; simp only [zO, zT, acs, reduceCtorEq, V, O, Z, ad, ab, aa]; (repeat refine an ?_); (try refine .inl ?_); apply k0; clear k0; simp only [zP, O])
 refine ae rfl fun _ k0 => ?_
 refine aC (h := au (pL a b)) rfl rfl (by first | exact rfl | (simp only [ev, zP, V, O]; exact rfl)) (by simp only [zV, acs, reduceCtorEq, V, O, Z, ad, ab, aa]) ?_
 apply k0; clear k0; simp only [zP, O]
 (refine ae rfl fun _ k0 => ?_; simp only [zO, zT, acs, reduceCtorEq, V, O, Z, ad, ab, aa]; (repeat refine an ?_); (try refine .inl ?_); apply k0; clear k0; simp only [zP, O])
 refine ag ?_
 apply k2; clear k2; refine kp [0, 1, 2, 3, 4] ?_
 refine ax ?_
 refine ⟨nr, _, rfl, ?_⟩; simp only [zF, zP, V, O]
 refine VLE.of_eq ?_
 rfl
theorem w7 (xs ys : List Int) : bH Tryz.prog 66 [.one (.list (.int .i64) xs), .one (.list (.int .i64) ys)] (.one (.bool (decide (xs = ys)))) := by
 refine aR Tryz.func66 rfl (by kernel_rfl) (Nat.le_of_ble_eq_true rfl) rfl fun C hP hN hB => ?_
 replace hN : C.N = 26 := hN
 simp only [aX, O]
 refine gx 0 rfl fun hf0 => ?_; simp only [lkp, if_true, if_false, reduceCtorEq, V, eq_self, Nat.one_ne_zero, Nat.zero_ne_one, lz, kw, kg, Fit, and_true, implies_true, true_and] at hf0
 refine af fun _ k1 => ?_
 refine ah hP hN rfl ?_
 (refine ae rfl fun _ k0 => ?_; simp only [zO, zT, acs, reduceCtorEq, V, O, Z, ad, ab, aa]; (repeat refine an ?_); (try refine .inl ?_); apply k0; clear k0; simp only [zP, O])
 refine ag ?_
 apply k1; clear k1; refine kp [0, 1, 4] ?_
 refine af fun _ k2 => ?_
 refine af fun _ k3 => ?_
 refine ah hP hN rfl ?_
 iterate 5 (refine ae rfl fun _ k0 => ?_; simp only [zO, zT, acs, reduceCtorEq, V, O, Z, ad, ab, aa]; (repeat refine an ?_); (try refine .inl ?_); apply k0; clear k0; simp only [zP, O])
 refine ag ?_
 apply k3; clear k3; refine kp [0, 1, 4, 10] ?_
 refine cd (fun hc4 => ?_) (fun hc4 => ?_)
 ·(try simp only [zB, reduceCtorEq] at hc4)
  refine af fun _ k5 => ?_
  refine ah hP hN rfl ?_
  (refine ae rfl fun _ k0 => ?_; simp only [zO, zT, acs, reduceCtorEq, V, O, Z, ad, ab, aa]; (repeat refine an ?_); (try refine .inl ?_); apply k0; clear k0; simp only [zP, O])
  refine ag ?_
  apply k5; clear k5; refine kp [0, 1, 4, 10] ?_
  refine ax ?_
  refine ⟨nr, _, rfl, ?_⟩; simp only [zF, zP, V, O]
  refine VLE.of_eq ?_
  first
  | (refine dR ?_; rintro rfl; first | exact absurd rfl ‹¬ _› | omega)
  | (refine ez ?_; have hk1 : k = xs.length := by omega
     have hk2 : k = ys.length := by omega
     rw [hk1, aD, ← hk1, hk2, aD] at hT; exact hT)
 (try simp only [zB, reduceCtorEq] at hc4)
 refine ay ?_
 apply k2; clear k2; refine kp [0, 1, 4, 10] ?_
 refine af fun _ k6 => ?_
 refine af fun _ k7 => ?_
 refine ah hP hN rfl ?_
 (refine ae rfl fun _ k0 => ?_; simp only [zO, zT, acs, reduceCtorEq, V, O, Z, ad, ab, aa]; (repeat refine an ?_); (try refine .inl ?_); apply k0; clear k0; simp only [zP, O])
 refine ag ?_
 apply k7; clear k7; refine kp [0, 1, 4, 5, 10] ?_
 refine aE ?_
 refine bn (fun n8 s8 => ∃ (k : Nat), (k ≤ xs.length) ∧ (xs.take k = ys.take k) ∧ n8 = xs.length - k ∧ s8 = { env := [(0, .one (.list (.int .i64) xs)), (1, .one (.list (.int .i64) ys)), (5, .one (.int .i64 (k : Int)))], L := [] }) ?_ ?_
 ·exact ⟨_, _, aB [0, 1, 5], 0, Nat.zero_le _, rfl, rfl, rfl⟩
 rintro n8 s8 ⟨k, hk, hT, rfl, rfl⟩
 refine af fun _ k9 => ?_
 refine af fun _ k10 => ?_
 refine ah hP hN rfl ?_
 iterate 4 (refine ae rfl fun _ k0 => ?_; simp only [zO, zT, acs, reduceCtorEq, V, O, Z, ad, ab, aa]; (repeat refine an ?_); (try refine .inl ?_); apply k0; clear k0; simp only [zP, O])
 refine ag ?_
 apply k10; clear k10; refine kp [0, 1, 5, 14] ?_
 refine cd (fun hc11 => ?_) (fun hc11 => ?_)
 ·(try simp only [zB, reduceCtorEq] at hc11)
  refine ay ?_
  apply k9; clear k9; refine kp [0, 1, 5, 14] ?_
  refine af fun _ k12 => ?_
  refine aE ?_
  refine af fun _ k13 => ?_
  refine bZ hP hN Tryz.mixed rfl ?_
  iterate 9 (refine ae rfl fun _ k0 => ?_; simp only [zO, zT, acs, reduceCtorEq, V, O, Z, ad, ab, aa]; (repeat refine an ?_); (try refine .inl ?_); apply k0; clear k0; simp only [zP, O])
  refine ag ?_
  refine ⟨by kernel_rfl, ?_⟩
  apply k13; clear k13; refine kp [0, 1, 5, 14, 25] ?_
  refine cd (fun hc14 => ?_) (fun hc14 => ?_)
  ·(try simp only [zB, reduceCtorEq] at hc14)
   refine af fun _ k15 => ?_
   refine ah hP hN rfl ?_
   (refine ae rfl fun _ k0 => ?_; simp only [zO, zT, acs, reduceCtorEq, V, O, Z, ad, ab, aa]; (repeat refine an ?_); (try refine .inl ?_); apply k0; clear k0; simp only [zP, O])
   refine ag ?_
   apply k15; clear k15; refine kp [0, 1, 4, 5, 14, 25] ?_
   refine ax ?_
   refine ⟨nr, _, rfl, ?_⟩; simp only [zF, zP, V, O]
   refine VLE.of_eq ?_
   first
   | (refine dR ?_; rintro rfl; first | exact absurd rfl ‹¬ _› | omega)
   | (refine ez ?_; have hk1 : k = xs.length := by omega
      have hk2 : k = ys.length := by omega
      rw [hk1, aD, ← hk1, hk2, aD] at hT; exact hT)
  (try simp only [zB, reduceCtorEq] at hc14)
  refine ay ?_
  apply k12; clear k12; refine kp [0, 1, 5, 14, 25] ?_
  refine ah hP hN rfl ?_
  iterate 3 (refine ae rfl fun _ k0 => ?_; simp only [zO, zT, acs, reduceCtorEq, V, O, Z, ad, ab, aa]; (repeat refine an ?_); (try refine .inl ?_); apply k0; clear k0; simp only [zP, O])
  refine ag ?_
  refine ⟨_, _, ?_, aB [0, 1, 5], k + 1, by omega, j8 (d := 0) hT (by omega) (by omega) ?_, rfl, rfl⟩
  · omega
  · first | assumption | omega
 (try simp only [zB, reduceCtorEq] at hc11)
 refine bh ?_
 apply k6; clear k6; refine kp [0, 1, 5, 14] ?_
 refine af fun _ k16 => ?_
 refine ah hP hN rfl ?_
 (refine ae rfl fun _ k0 => ?_; simp only [zO, zT, acs, reduceCtorEq, V, O, Z, ad, ab, aa]; (repeat refine an ?_); (try refine .inl ?_); apply k0; clear k0; simp only [zP, O])
 refine ag ?_
 apply k16; clear k16; refine kp [0, 1, 4, 5, 14] ?_
 refine ax ?_
 refine ⟨nr, _, rfl, ?_⟩; simp only [zF, zP, V, O]
 refine VLE.of_eq ?_
 first
 | (refine dR ?_; rintro rfl; first | exact absurd rfl ‹¬ _› | omega)
 | (refine ez ?_; have hk1 : k = xs.length := by omega
    have hk2 : k = ys.length := by omega
    rw [hk1, aD, ← hk1, hk2, aD] at hT; exact hT)
theorem qw (xs ys : List (List Int)) : bH Tryz.prog 54 [.one (.list (.list (.int .i64)) xs), .one (.list (.list (.int .i64)) ys)] (.one (.bool (decide (xs = ys)))) := by
 refine aR Tryz.func54 rfl (by kernel_rfl) (Nat.le_of_ble_eq_true rfl) rfl fun C hP hN hB => ?_
 replace hN : C.N = 27 := hN
 simp only [aX, O]
 refine gx 0 rfl fun hf0 => ?_; simp only [lkp, if_true, if_false, reduceCtorEq, V, eq_self, Nat.one_ne_zero, Nat.zero_ne_one, lz, kw, kg, Fit, and_true, implies_true, true_and] at hf0
 refine af fun _ k1 => ?_
 refine ah hP hN rfl ?_
 (refine ae rfl fun _ k0 => ?_; simp only [zO, zT, acs, reduceCtorEq, V, O, Z, ad, ab, aa]; (repeat refine an ?_); (try refine .inl ?_); apply k0; clear k0; simp only [zP, O])
 refine ag ?_
 apply k1; clear k1; refine kp [0, 1, 4] ?_
 refine af fun _ k2 => ?_
 refine af fun _ k3 => ?_
 refine ah hP hN rfl ?_
 iterate 5 (refine ae rfl fun _ k0 => ?_; simp only [zO, zT, acs, reduceCtorEq, V, O, Z, ad, ab, aa]; (repeat refine an ?_); (try refine .inl ?_); apply k0; clear k0; simp only [zP, O])
 refine ag ?_
 apply k3; clear k3; refine kp [0, 1, 4, 10] ?_
 refine cd (fun hc4 => ?_) (fun hc4 => ?_)
 ·(try simp only [zB, reduceCtorEq] at hc4)
  refine af fun _ k5 => ?_
  refine ah hP hN rfl ?_
  (refine ae rfl fun _ k0 => ?_; simp only [zO, zT, acs, reduceCtorEq, V, O, Z, ad, ab, aa]; (repeat refine an ?_); (try refine .inl ?_); apply k0; clear k0; simp only [zP, O])
  refine ag ?_
  apply k5; clear k5; refine kp [0, 1, 4, 10] ?_
  refine ax ?_
  refine ⟨nr, _, rfl, ?_⟩; simp only [zF, zP, V, O]
  refine VLE.of_eq ?_
  first
  | (refine dR ?_; rintro rfl; first | exact absurd rfl ‹¬ _› | omega)
  | (refine ez ?_; have hk1 : k = xs.length := by omega
     have hk2 : k = ys.length := by omega
     rw [hk1, aD, ← hk1, hk2, aD] at hT; exact hT)
 (try simp only [zB, reduceCtorEq] at hc4)
 refine ay ?_
 apply k2; clear k2; refine kp [0, 1, 4, 10] ?_
 refine af fun _ k6 => ?_
 refine af fun _ k7 => ?_
 refine ah hP hN rfl ?_
 (refine ae rfl fun _ k0 => ?_; simp only [zO, zT, acs, reduceCtorEq, V, O, Z, ad, ab, aa]; (repeat refine an ?_); (try refine .inl ?_); apply k0; clear k0; simp only [zP, O])
 refine ag ?_
 apply k7; clear k7; refine kp [0, 1, 4, 5, 10] ?_
 refine aE ?_
 refine bn (fun n8 s8 => ∃ (k : Nat), (k ≤ xs.length) ∧ (xs.take k = ys.take k) ∧ n8 = xs.length - k ∧ s8 = { env := [(0, .one (.list (.list (.int .i64)) xs)), (1, .one (.list (.list (.int .i64)) ys)), (5, .one (.int .i64 (k : Int)))], L := [] }) ?_ ?_
 ·exact ⟨_, _, aB [0, 1, 5], 0, Nat.zero_le _, rfl, rfl, rfl⟩
 rintro n8 s8 ⟨k, hk, hT, rfl, rfl⟩
 refine af fun _ k9 => ?_
 refine af fun _ k10 => ?_
 refine ah hP hN rfl ?_
 iterate 4 (refine ae rfl fun _ k0 => ?_; simp only [zO, zT, acs, reduceCtorEq, V, O, Z, ad, ab, aa]; (repeat refine an ?_); (try refine .inl ?_); apply k0; clear k0; simp only [zP, O])
 refine ag ?_
 apply k10; clear k10; refine kp [0, 1, 5, 14] ?_
 refine cd (fun hc11 => ?_) (fun hc11 => ?_)
 ·(try simp only [zB, reduceCtorEq] at hc11)
  refine ay ?_
  apply k9; clear k9; refine kp [0, 1, 5, 14] ?_
  refine af fun _ k12 => ?_
  refine aE ?_
  refine af fun _ k13 => ?_
  refine bZ hP hN Tryz.mixed rfl ?_
  iterate 8 (refine ae rfl fun _ k0 => ?_; simp only [zO, zT, acs, reduceCtorEq, V, O, Z, ad, ab, aa]; (repeat refine an ?_); (try refine .inl ?_); apply k0; clear k0; simp only [zP, O])
  refine ae rfl fun _ k0 => ?_
  refine aC (h := au (w7 (xs.getD k []) (ys.getD k []))) rfl rfl (by first | exact rfl | (simp only [ev, zP, V, O]; exact rfl)) (by simp only [zV, acs, reduceCtorEq, V, O, Z, ad, ab, aa]) ?_
  apply k0; clear k0; simp only [zP, O]
  (refine ae rfl fun _ k0 => ?_; simp only [zO, zT, acs, reduceCtorEq, V, O, Z, ad, ab, aa]; (repeat refine an ?_); (try refine .inl ?_); apply k0; clear k0; simp only [zP, O])
  refine ag ?_
  refine ⟨by kernel_rfl, ?_⟩
  apply k13; clear k13; refine kp [0, 1, 5, 14, 26] ?_
  refine cd (fun hc14 => ?_) (fun hc14 => ?_)
  ·(try simp only [zB, reduceCtorEq] at hc14)
   refine af fun _ k15 => ?_
   refine ah hP hN rfl ?_
   (refine ae rfl fun _ k0 => ?_; simp only [zO, zT, acs, reduceCtorEq, V, O, Z, ad, ab, aa]; (repeat refine an ?_); (try refine .inl ?_); apply k0; clear k0; simp only [zP, O])
   refine ag ?_
   apply k15; clear k15; refine kp [0, 1, 4, 5, 14, 26] ?_
   refine ax ?_
   refine ⟨nr, _, rfl, ?_⟩; simp only [zF, zP, V, O]
   refine VLE.of_eq ?_
   first
   | (refine dR ?_; rintro rfl; first | exact absurd rfl ‹¬ _› | omega)
   | (refine ez ?_; have hk1 : k = xs.length := by omega
      have hk2 : k = ys.length := by omega
      rw [hk1, aD, ← hk1, hk2, aD] at hT; exact hT)
  (try simp only [zB, reduceCtorEq] at hc14)
  refine ay ?_
  apply k12; clear k12; refine kp [0, 1, 5, 14, 26] ?_
  refine ah hP hN rfl ?_
  iterate 3 (refine ae rfl fun _ k0 => ?_; simp only [zO, zT, acs, reduceCtorEq, V, O, Z, ad, ab, aa]; (repeat refine an ?_); (try refine .inl ?_); apply k0; clear k0; simp only [zP, O])
  refine ag ?_
  refine ⟨_, _, ?_, aB [0, 1, 5], k + 1, by omega, j8 (d := []) hT (by omega) (by omega) ?_, rfl, rfl⟩
  · omega
  · first | assumption | omega
 (try simp only [zB, reduceCtorEq] at hc11)
 refine bh ?_
 apply k6; clear k6; refine kp [0, 1, 5, 14] ?_
 refine af fun _ k16 => ?_
 refine ah hP hN rfl ?_
 (refine ae rfl fun _ k0 => ?_; simp only [zO, zT, acs, reduceCtorEq, V, O, Z, ad, ab, aa]; (repeat refine an ?_); (try refine .inl ?_); apply k0; clear k0; simp only [zP, O])
 refine ag ?_
 apply k16; clear k16; refine kp [0, 1, 4, 5, 14] ?_
 refine ax ?_
 refine ⟨nr, _, rfl, ?_⟩; simp only [zF, zP, V, O]
 refine VLE.of_eq ?_
 first
 | (refine dR ?_; rintro rfl; first | exact absurd rfl ‹¬ _› | omega)
 | (refine ez ?_; have hk1 : k = xs.length := by omega
    have hk2 : k = ys.length := by omega
    rw [hk1, aD, ← hk1, hk2, aD] at hT; exact hT)
theorem uS (m n : Mly) : bH Tryz.prog 35 [m.av, n.av] (.one (.bool (jK m n))) := by
 refine aR Tryz.func35 rfl (by kernel_rfl) (Nat.le_of_ble_eq_true rfl) rfl fun C hP hN hB => ?_
 replace hN : C.N = 31 := hN
 simp only [aX, O]
 refine af fun _ k1 => ?_
 refine ah hP hN rfl ?_
 iterate 3 (refine ae rfl fun _ k0 => ?_; simp only [zO, zT, acs, reduceCtorEq, V, O, Z, ad, ab, aa, Mly.av]; (repeat refine an ?_); (try refine .inl ?_); apply k0; clear k0; simp only [zP, O])
 refine ag ?_
 apply k1; clear k1; refine kp [0, 1, 2, 3, 4] ?_
 refine af fun _ k2 => ?_
 refine ah hP hN rfl ?_
 iterate 6 (refine ae rfl fun _ k0 => ?_; simp only [zO, zT, acs, reduceCtorEq, V, O, Z, ad, ab, aa, Mly.av]; (repeat refine an ?_); (try refine .inl ?_); apply k0; clear k0; simp only [zP, O])
 refine' aA (want := true) 5 rfl (m := 10) (by simp only [zP, V, O]; exact rfl) (by kernel_rfl) rfl rfl rfl rfl rfl (fun hg3 => ?a3) ?b3 ?c3
 case a3 =>
  have hq3 := hg3; (try simp only [zB, reduceCtorEq] at hg3); simp only [zE]
  iterate 5 (refine aQ rfl fun _ k0 => ?_; simp only [zO, zT, acs, reduceCtorEq, V, O, Z, ad, ab, aa, Mly.av]; (repeat refine an ?_); (try refine .inl ?_); apply k0; clear k0; simp only [zP, O])
  (refine ae rfl fun _ k0 => ?_; simp only [zO, zT, acs, reduceCtorEq, V, O, Z, ad, ab, aa, Mly.av]; (repeat refine an ?_); (try refine .inl ?_); apply k0; clear k0; simp only [zP, O])
  refine ag ?_
  refine ⟨by simp only [zP, V, O]; exact rfl, rfl, ?_, rfl⟩; (repeat refine az rfl ?_); exact aP (by exact rfl) hq3
 case b3 => exact bf
 simp only [aK, aF]
 (refine ae rfl fun _ k0 => ?_; simp only [zO, zT, acs, reduceCtorEq, V, O, Z, ad, ab, aa, Mly.av]; (repeat refine an ?_); (try refine .inl ?_); apply k0; clear k0; simp only [zP, O])
 refine' aA (want := true) 5 rfl (m := 17) (by simp only [zP, V, O]; exact rfl) (by kernel_rfl) rfl rfl rfl rfl rfl (fun hg4 => ?a4) ?b4 ?c4
 case a4 =>
  have hq4 := hg4; (try simp only [zB, reduceCtorEq] at hg4); simp only [zE]
  iterate 4 (refine aQ rfl fun _ k0 => ?_; simp only [zO, zT, acs, reduceCtorEq, V, O, Z, ad, ab, aa, Mly.av]; (repeat refine an ?_); (try refine .inl ?_); apply k0; clear k0; simp only [zP, O])
  refine aQ rfl fun _ k0 => ?_
  refine aC (h := au (qw m.nx n.nx)) rfl rfl (by first | exact rfl | (simp only [ev, zP, V, O]; exact rfl)) (by simp only [zV, acs, reduceCtorEq, V, O, Z, ad, ab, aa, Mly.av]) ?_
  apply k0; clear k0; simp only [zP, O]
  (refine ae rfl fun _ k0 => ?_; simp only [zO, zT, acs, reduceCtorEq, V, O, Z, ad, ab, aa, Mly.av]; (repeat refine an ?_); (try refine .inl ?_); apply k0; clear k0; simp only [zP, O])
  refine ag ?_
  refine ⟨by simp only [zP, V, O]; exact rfl, rfl, ?_, rfl⟩; (repeat refine az rfl ?_); exact aP (by exact rfl) hq4
 case b4 => exact bf
 simp only [aK, aF]
 (refine ae rfl fun _ k0 => ?_; simp only [zO, zT, acs, reduceCtorEq, V, O, Z, ad, ab, aa, Mly.av]; (repeat refine an ?_); (try refine .inl ?_); apply k0; clear k0; simp only [zP, O])
 refine' aA (want := true) 5 rfl (m := 24) (by simp only [zP, V, O]; exact rfl) (by kernel_rfl) rfl rfl rfl rfl rfl (fun hg5 => ?a5) ?b5 ?c5
 case a5 =>
  have hq5 := hg5; (try simp only [zB, reduceCtorEq] at hg5); simp only [zE]
  iterate 4 (refine aQ rfl fun _ k0 => ?_; simp only [zO, zT, acs, reduceCtorEq, V, O, Z, ad, ab, aa, Mly.av]; (repeat refine an ?_); (try refine .inl ?_); apply k0; clear k0; simp only [zP, O])
  refine aQ rfl fun _ k0 => ?_
  refine aC (h := au (qw m.ot n.ot)) rfl rfl (by first | exact rfl | (simp only [ev, zP, V, O]; exact rfl)) (by simp only [zV, acs, reduceCtorEq, V, O, Z, ad, ab, aa, Mly.av]) ?_
  apply k0; clear k0; simp only [zP, O]
  (refine ae rfl fun _ k0 => ?_; simp only [zO, zT, acs, reduceCtorEq, V, O, Z, ad, ab, aa, Mly.av]; (repeat refine an ?_); (try refine .inl ?_); apply k0; clear k0; simp only [zP, O])
  refine ag ?_
  refine ⟨by simp only [zP, V, O]; exact rfl, rfl, ?_, rfl⟩; (repeat refine az rfl ?_); exact aP (by exact rfl) hq5
 case b5 => exact bf
 simp only [aK, aF]
 (refine ae rfl fun _ k0 => ?_; simp only [zO, zT, acs, reduceCtorEq, V, O, Z, ad, ab, aa, Mly.av]; (repeat refine an ?_); (try refine .inl ?_); apply k0; clear k0; simp only [zP, O])
 refine ag ?_
 apply k2; clear k2; refine kp [0, 1, 2, 3, 4] ?_
 refine ax ?_
 refine ⟨nr, _, rfl, ?_⟩; simp only [zF, zP, V, O, Mly.av]
 refine VLE.of_eq ?_
 rfl
theorem rN (x y : Mdl) : bH Tryz.prog 13 [x.av, y.av] (.one (.bool (decide (x.nm = y.nm) && decide (x.ins = y.ins) && decide (x.outs = y.outs) && jK x.m y.m))) := by
 refine aR Tryz.func13 rfl (by kernel_rfl) (Nat.le_of_ble_eq_true rfl) rfl fun C hP hN hB => ?_
 replace hN : C.N = 31 := hN
 simp only [aX, O]
 refine af fun _ k1 => ?_
 refine ah hP hN rfl ?_
 iterate 3 (refine ae rfl fun _ k0 => ?_; simp only [zO, zT, acs, reduceCtorEq, V, O, Z, ad, ab, aa, Mdl.av, Mdl.cs]; (repeat refine an ?_); (try refine .inl ?_); apply k0; clear k0; simp only [zP, O])
 refine ag ?_
 apply k1; clear k1; refine kp [0, 1, 2, 3, 4] ?_
 refine af fun _ k2 => ?_
 refine ah hP hN rfl ?_
 iterate 6 (refine ae rfl fun _ k0 => ?_; simp only [zO, zT, acs, reduceCtorEq, V, O, Z, ad, ab, aa, Mdl.av, Mdl.cs]; (repeat refine an ?_); (try refine .inl ?_); apply k0; clear k0; simp only [zP, O])
 refine' aA (want := true) 5 rfl (m := 10) (by simp only [zP, V, O]; exact rfl) (by kernel_rfl) rfl rfl rfl rfl rfl (fun hg3 => ?a3) ?b3 ?c3
 case a3 =>
  have hq3 := hg3; (try simp only [zB, reduceCtorEq] at hg3); simp only [zE]
  iterate 4 (refine aQ rfl fun _ k0 => ?_; simp only [zO, zT, acs, reduceCtorEq, V, O, Z, ad, ab, aa, Mdl.av, Mdl.cs]; (repeat refine an ?_); (try refine .inl ?_); apply k0; clear k0; simp only [zP, O])
  refine aQ rfl fun _ k0 => ?_
  refine aC (h := au (oQ x.ins y.ins)) rfl rfl (by first | exact rfl | (simp only [ev, zP, V, O]; exact rfl)) (by simp only [zV, acs, reduceCtorEq, V, O, Z, ad, ab, aa, Mdl.av, Mdl.cs]) ?_
  apply k0; clear k0; simp only [zP, O]
  (refine ae rfl fun _ k0 => ?_; simp only [zO, zT, acs, reduceCtorEq, V, O, Z, ad, ab, aa, Mdl.av, Mdl.cs]; (repeat refine an ?_); (try refine .inl ?_); apply k0; clear k0; simp only [zP, O])
  refine ag ?_
  refine ⟨by simp only [zP, V, O]; exact rfl, rfl, ?_, rfl⟩; (repeat refine az rfl ?_); exact aP (by exact rfl) hq3
 case b3 => exact bf
 simp only [aK, aF]
 (refine ae rfl fun _ k0 => ?_; simp only [zO, zT, acs, reduceCtorEq, V, O, Z, ad, ab, aa, Mdl.av, Mdl.cs]; (repeat refine an ?_); (try refine .inl ?_); apply k0; clear k0; simp only [zP, O])
 refine' aA (want := true) 5 rfl (m := 17) (by simp only [zP, V, O]; exact rfl) (by kernel_rfl) rfl rfl rfl rfl rfl (fun hg4 => ?a4) ?b4 ?c4
 case a4 =>
  have hq4 := hg4; (try simp only [zB, reduceCtorEq] at hg4); simp only [zE]
  iterate 4 (refine aQ rfl fun _ k0 => ?_; simp only [zO, zT, acs, reduceCtorEq, V, O, Z, ad, ab, aa, Mdl.av, Mdl.cs]; (repeat refine an ?_); (try refine .inl ?_); apply k0; clear k0; simp only [zP, O])
  refine aQ rfl fun _ k0 => ?_
  refine aC (h := au (oQ x.outs y.outs)) rfl rfl (by first | exact rfl | (simp only [ev, zP, V, O]; exact rfl)) (by simp only [zV, acs, reduceCtorEq, V, O, Z, ad, ab, aa, Mdl.av, Mdl.cs]) ?_
  apply k0; clear k0; simp only [zP, O]
  (refine ae rfl fun _ k0 => ?_; simp only [zO, zT, acs, reduceCtorEq, V, O, Z, ad, ab, aa, Mdl.av, Mdl.cs]; (repeat refine an ?_); (try refine .inl ?_); apply k0; clear k0; simp only [zP, O])
  refine ag ?_
  refine ⟨by simp only [zP, V, O]; exact rfl, rfl, ?_, rfl⟩; (repeat refine az rfl ?_); exact aP (by exact rfl) hq4
 case b4 => exact bf
 simp only [aK, aF]
 (refine ae rfl fun _ k0 => ?_; simp only [zO, zT, acs, reduceCtorEq, V, O, Z, ad, ab, aa, Mdl.av, Mdl.cs]; (repeat refine an ?_); (try refine .inl ?_); apply k0; clear k0; simp only [zP, O])
 refine' aA (want := true) 5 rfl (m := 24) (by simp only [zP, V, O]; exact rfl) (by kernel_rfl) rfl rfl rfl rfl rfl (fun hg5 => ?a5) ?b5 ?c5
 case a5 =>
  have hq5 := hg5; (try simp only [zB, reduceCtorEq] at hg5); simp only [zE]
  iterate 4 (refine aQ rfl fun _ k0 => ?_; simp only [zO, zT, acs, reduceCtorEq, V, O, Z, ad, ab, aa, Mdl.av, Mdl.cs]; (repeat refine an ?_); (try refine .inl ?_); apply k0; clear k0; simp only [zP, O])
  refine aQ rfl fun _ k0 => ?_
  refine aC (h := au (uS x.m y.m)) rfl rfl (by first | exact rfl | (simp only [ev, zP, V, O]; exact rfl)) (by simp only [zV, acs, reduceCtorEq, V, O, Z, ad, ab, aa, Mdl.av, Mdl.cs]) ?_
  apply k0; clear k0; simp only [zP, O]
  (refine ae rfl fun _ k0 => ?_; simp only [zO, zT, acs, reduceCtorEq, V, O, Z, ad, ab, aa, Mdl.av, Mdl.cs]; (repeat refine an ?_); (try refine .inl ?_); apply k0; clear k0; simp only [zP, O])
  refine ag ?_
  refine ⟨by simp only [zP, V, O]; exact rfl, rfl, ?_, rfl⟩; (repeat refine az rfl ?_); exact aP (by exact rfl) hq5
 case b5 => exact bf
 simp only [aK, aF]
 (refine ae rfl fun _ k0 => ?_; simp only [zO, zT, acs, reduceCtorEq, V, O, Z, ad, ab, aa, Mdl.av, Mdl.cs]; (repeat refine an ?_); (try refine .inl ?_); apply k0; clear k0; simp only [zP, O])
 refine ag ?_
 apply k2; clear k2; refine kp [0, 1, 2, 3, 4] ?_
 refine ax ?_
 refine ⟨nr, _, rfl, ?_⟩; simp only [zF, zP, V, O, Mdl.av, Mdl.cs]
 refine VLE.of_eq ?_
 rfl
theorem qp (x y : Mdl) : bH Tryz.prog 13 [x.av, y.av] (.one (.bool (pN x y))) := rN x y
set_option maxHeartbeats 2000000 in
theorem mB  : bH Tryz.prog 6 [] (.one (.bool true)) := by
 refine aR Tryz.func6 rfl (by kernel_rfl) (Nat.le_of_ble_eq_true rfl) rfl fun C hP hN hB => ?_
 replace hN : C.N = 99 := hN
 simp only [aX, O]
 refine af fun _ k1 => ?_
 refine ah hP hN rfl ?_
 (refine ae rfl fun _ k0 => ?_; simp only [zO, zT, acs, reduceCtorEq, V, O, Z, ad, ab, aa, Mdl.av, Mdl.cs]; (repeat refine an ?_); (try refine .inl ?_); apply k0; clear k0; simp only [zP, O])
 refine ag ?_
 apply k1; clear k1; refine kp [0] ?_
 refine af fun _ k2 => ?_
 refine ah hP hN rfl ?_
 refine ae rfl fun _ k0 => ?_
 refine aC (h := au oB) rfl rfl (by first | exact rfl | (simp only [ev, zP, V, O]; exact rfl)) (by simp only [zV, acs, reduceCtorEq, V, O, Z, ad, ab, aa, Mdl.av, Mdl.cs]) ?_
 apply k0; clear k0; simp only [zP, O]
 refine ae rfl fun _ k0 => ?_
 refine aC (h := au uB) rfl rfl (by first | exact rfl | (simp only [ev, zP, V, O]; exact rfl)) (by simp only [zV, acs, reduceCtorEq, V, O, Z, ad, ab, aa, Mdl.av, Mdl.cs]) ?_
 apply k0; clear k0; simp only [zP, O]
 iterate 5 (refine ae rfl fun _ k0 => ?_; simp only [zO, zT, acs, reduceCtorEq, V, O, Z, ad, ab, aa, Mdl.av, Mdl.cs]; (repeat refine an ?_); (try refine .inl ?_); apply k0; clear k0; simp only [zP, O])
 refine ag ?_
 apply k2; clear k2; refine kp [0, 1, 2] ?_
 refine af fun _ k3 => ?_
 refine ah hP hN rfl ?_
 refine ae rfl fun _ k0 => ?_
 refine aC (h := au xe) rfl rfl (by first | exact rfl | (simp only [ev, zP, V, O]; exact rfl)) (by simp only [zV, acs, reduceCtorEq, V, O, Z, ad, ab, aa, Mdl.av, Mdl.cs, List.append_eq, am, ar, gtx, gtA, gtB, gtC]) ?_
 apply k0; clear k0; simp only [zP, O]
 iterate 8 (refine ae rfl fun _ k0 => ?_; simp only [zO, zT, acs, reduceCtorEq, V, O, Z, ad, ab, aa, Mdl.av, Mdl.cs, List.append_eq, am, ar, gtx, gtA, gtB, gtC]; (repeat refine an ?_); (try refine .inl ?_); apply k0; clear k0; simp only [zP, O])
 refine ag ?_
 apply k3; clear k3; refine kp [0, 1, 2, 3, 4, 5] ?_
 refine af fun _ k4 => ?_
 refine ah hP hN rfl ?_
 refine ae rfl fun _ k0 => ?_
 refine aC (h := au x9) rfl rfl (by first | exact rfl | (simp only [ev, zP, V, O]; exact rfl)) (by simp only [zV, acs, reduceCtorEq, V, O, Z, ad, ab, aa, Mdl.av, Mdl.cs, List.append_eq, am, ar, gtx, gtA, gtB, gtC]) ?_
 apply k0; clear k0; simp only [zP, O]
 iterate 8 (refine ae rfl fun _ k0 => ?_; simp only [zO, zT, acs, reduceCtorEq, V, O, Z, ad, ab, aa, Mdl.av, Mdl.cs, List.append_eq, am, ar, gtx, gtA, gtB, gtC]; (repeat refine an ?_); (try refine .inl ?_); apply k0; clear k0; simp only [zP, O])
 refine ag ?_
 apply k4; clear k4; refine kp [0, 1, 2, 3, 4, 5, 7, 8] ?_
 refine af fun _ k5 => ?_
 refine ah hP hN rfl ?_
 refine ae rfl fun _ k0 => ?_
 refine aC (h := au xc) rfl rfl (by first | exact rfl | (simp only [ev, zP, V, O]; exact rfl)) (by simp only [zV, acs, reduceCtorEq, V, O, Z, ad, ab, aa, Mdl.av, Mdl.cs, List.append_eq, am, ar, gtx, gtA, gtB, gtC]) ?_
 apply k0; clear k0; simp only [zP, O]
 iterate 8 (refine ae rfl fun _ k0 => ?_; simp only [zO, zT, acs, reduceCtorEq, V, O, Z, ad, ab, aa, Mdl.av, Mdl.cs, List.append_eq, am, ar, gtx, gtA, gtB, gtC]; (repeat refine an ?_); (try refine .inl ?_); apply k0; clear k0; simp only [zP, O])
 refine ag ?_
 apply k5; clear k5; refine kp [0, 1, 2, 3, 4, 5, 7, 8, 10, 11] ?_
 refine af fun _ k6 => ?_
 refine ah hP hN rfl ?_
 refine ae rfl fun _ k0 => ?_
 refine aC (h := au x7) rfl rfl (by first | exact rfl | (simp only [ev, zP, V, O]; exact rfl)) (by simp only [zV, acs, reduceCtorEq, V, O, Z, ad, ab, aa, Mdl.av, Mdl.cs, List.append_eq, am, ar, gtx, gtA, gtB, gtC]) ?_
 apply k0; clear k0; simp only [zP, O]
 iterate 8 (refine ae rfl fun _ k0 => ?_; simp only [zO, zT, acs, reduceCtorEq, V, O, Z, ad, ab, aa, Mdl.av, Mdl.cs, List.append_eq, am, ar, gtx, gtA, gtB, gtC]; (repeat refine an ?_); (try refine .inl ?_); apply k0; clear k0; simp only [zP, O])
 refine ag ?_
 apply k6; clear k6; refine kp [0, 1, 2, 3, 4, 5, 7, 8, 10, 11, 13, 14] ?_
 refine af fun _ k7 => ?_
 refine ah hP hN rfl ?_
 refine ae rfl fun _ k0 => ?_
 refine aC (h := au wZ) rfl rfl (by first | exact rfl | (simp only [ev, zP, V, O]; exact rfl)) (by simp only [zV, acs, reduceCtorEq, V, O, Z, ad, ab, aa, Mdl.av, Mdl.cs]) ?_
 apply k0; clear k0; simp only [zP, O]
 iterate 8 (refine ae rfl fun _ k0 => ?_; simp only [zO, zT, acs, reduceCtorEq, V, O, Z, ad, ab, aa, Mdl.av, Mdl.cs]; (repeat refine an ?_); (try refine .inl ?_); apply k0; clear k0; simp only [zP, O])
 refine ag ?_
 apply k7; clear k7; refine kp [0, 1, 2, 3, 4, 5, 7, 8, 10, 11, 13, 14, 16, 17] ?_
 refine af fun _ k8 => ?_
 refine bZ hP hN Tryz.mixed rfl ?_
 iterate 3 (refine ae rfl fun _ k0 => ?_; simp only [zO, zT, acs, reduceCtorEq, V, O, Z, ad, ab, aa, Mdl.av, Mdl.cs, List.append_eq, am, ar, gtx, gtA, gtB, gtC]; (repeat refine an ?_); (try refine .inl ?_); apply k0; clear k0; simp only [zP, O])
 refine' aA (want := true) 2 rfl (m := 50) (by simp only [zP, V, O]; exact rfl) (by kernel_rfl) rfl rfl rfl rfl rfl (fun hg9 => ?a9) ?b9 ?c9
 case a9 =>
  have hq9 := hg9; (try simp only [zB, reduceCtorEq] at hg9); simp only [zE]
  iterate 2 (refine aQ rfl fun _ k0 => ?_; simp only [zO, zT, acs, reduceCtorEq, V, O, Z, ad, ab, aa, Mdl.av, Mdl.cs, List.append_eq, am, ar, gtx, gtA, gtB, gtC]; (repeat refine an ?_); (try refine .inl ?_); apply k0; clear k0; simp only [zP, O])
  (refine ae rfl fun _ k0 => ?_; simp only [zO, zT, acs, reduceCtorEq, V, O, Z, ad, ab, aa, Mdl.av, Mdl.cs, List.append_eq, am, ar, gtx, gtA, gtB, gtC]; (repeat refine an ?_); (try refine .inl ?_); apply k0; clear k0; simp only [zP, O])
  refine ag ?_
  refine ⟨by simp only [zP, V, O]; exact rfl, rfl, ?_, rfl⟩; (repeat refine az rfl ?_); exact aP (by exact rfl) hq9
 case b9 => exact bf
 simp only [aK, aF]
 (refine ae rfl fun _ k0 => ?_; simp only [zO, zT, acs, reduceCtorEq, V, O, Z, ad, ab, aa, Mdl.av, Mdl.cs, List.append_eq, am, ar, gtx, gtA, gtB, gtC]; (repeat refine an ?_); (try refine .inl ?_); apply k0; clear k0; simp only [zP, O])
 refine' aA (want := true) 3 rfl (m := 54) (by simp only [zP, V, O]; exact rfl) (by kernel_rfl) rfl rfl rfl rfl rfl (fun hg10 => ?a10) ?b10 ?c10
 case a10 =>
  have hq10 := hg10; (try simp only [zB, reduceCtorEq] at hg10); simp only [zE]
  (refine aQ rfl fun _ k0 => ?_; simp only [zO, zT, acs, reduceCtorEq, V, O, Z, ad, ab, aa, Mdl.av, Mdl.cs, List.append_eq, am, ar, gtx, gtA, gtB, gtC]; (repeat refine an ?_); (try refine .inl ?_); apply k0; clear k0; simp only [zP, O])
  refine aQ rfl fun _ k0 => ?_
  refine aC (h := au oB) rfl rfl (by first | exact rfl | (simp only [ev, zP, V, O]; exact rfl)) (by simp only [zV, acs, reduceCtorEq, V, O, Z, ad, ab, aa, Mdl.av, Mdl.cs, List.append_eq, am, ar, gtx, gtA, gtB, gtC]) ?_
  apply k0; clear k0; simp only [zP, O]
  refine aQ rfl fun _ k0 => ?_
  refine aC (h := au (qp eU eU)) rfl rfl (by first | exact rfl | (simp only [ev, zP, V, O]; exact rfl)) (by simp only [zV, acs, reduceCtorEq, V, O, Z, ad, ab, aa, Mdl.av, Mdl.cs, List.append_eq, am, ar, gtx, gtA, gtB, gtC]) ?_
  apply k0; clear k0; simp only [zP, O]
  (refine ae rfl fun _ k0 => ?_; simp only [zO, zT, acs, reduceCtorEq, V, O, Z, ad, ab, aa, Mdl.av, Mdl.cs, List.append_eq, am, ar, gtx, gtA, gtB, gtC]; (repeat refine an ?_); (try refine .inl ?_); apply k0; clear k0; simp only [zP, O])
  refine ag ?_
  refine ⟨by simp only [zP, V, O]; exact rfl, rfl, ?_, rfl⟩; (repeat refine az rfl ?_); exact aP (by exact rfl) hq10
 case b10 => exact bf
 simp only [aK, aF]
 (refine ae rfl fun _ k0 => ?_; simp only [zO, zT, acs, reduceCtorEq, V, O, Z, ad, ab, aa, Mdl.av, Mdl.cs, List.append_eq, am, ar, gtx, gtA, gtB, gtC]; (repeat refine an ?_); (try refine .inl ?_); apply k0; clear k0; simp only [zP, O])
 refine' aA (want := true) 2 rfl (m := 59) (by simp only [zP, V, O]; exact rfl) (by kernel_rfl) rfl rfl rfl rfl rfl (fun hg11 => ?a11) ?b11 ?c11
 case a11 =>
  have hq11 := hg11; (try simp only [zB, reduceCtorEq] at hg11); simp only [zE]
  iterate 2 (refine aQ rfl fun _ k0 => ?_; simp only [zO, zT, acs, reduceCtorEq, V, O, Z, ad, ab, aa, Mdl.av, Mdl.cs, List.append_eq, am, ar, gtx, gtA, gtB, gtC]; (repeat refine an ?_); (try refine .inl ?_); apply k0; clear k0; simp only [zP, O])
  (refine ae rfl fun _ k0 => ?_; simp only [zO, zT, acs, reduceCtorEq, V, O, Z, ad, ab, aa, Mdl.av, Mdl.cs, List.append_eq, am, ar, gtx, gtA, gtB, gtC]; (repeat refine an ?_); (try refine .inl ?_); apply k0; clear k0; simp only [zP, O])
  refine ag ?_
  refine ⟨by simp only [zP, V, O]; exact rfl, rfl, ?_, rfl⟩; (repeat refine az rfl ?_); exact aP (by exact rfl) hq11
 case b11 => exact bf
 simp only [aK, aF]
 (refine ae rfl fun _ k0 => ?_; simp only [zO, zT, acs, reduceCtorEq, V, O, Z, ad, ab, aa, Mdl.av, Mdl.cs, List.append_eq, am, ar, gtx, gtA, gtB, gtC]; (repeat refine an ?_); (try refine .inl ?_); apply k0; clear k0; simp only [zP, O])
 refine' aA (want := true) 2 rfl (m := 63) (by simp only [zP, V, O]; exact rfl) (by kernel_rfl) rfl rfl rfl rfl rfl (fun hg12 => ?a12) ?b12 ?c12
 case a12 =>
  have hq12 := hg12; (try simp only [zB, reduceCtorEq] at hg12); simp only [zE]
  iterate 2 (refine aQ rfl fun _ k0 => ?_; simp only [zO, zT, acs, reduceCtorEq, V, O, Z, ad, ab, aa, Mdl.av, Mdl.cs, List.append_eq, am, ar, gtx, gtA, gtB, gtC]; (repeat refine an ?_); (try refine .inl ?_); apply k0; clear k0; simp only [zP, O])
  (refine ae rfl fun _ k0 => ?_; simp only [zO, zT, acs, reduceCtorEq, V, O, Z, ad, ab, aa, Mdl.av, Mdl.cs, List.append_eq, am, ar, gtx, gtA, gtB, gtC]; (repeat refine an ?_); (try refine .inl ?_); apply k0; clear k0; simp only [zP, O])
  refine ag ?_
  refine ⟨by simp only [zP, V, O]; exact rfl, rfl, ?_, rfl⟩; (repeat refine az rfl ?_); exact aP (by exact rfl) hq12
 case b12 => exact bf
 simp only [aK, aF]
 (refine ae rfl fun _ k0 => ?_; simp only [zO, zT, acs, reduceCtorEq, V, O, Z, ad, ab, aa, Mdl.av, Mdl.cs, List.append_eq, am, ar, gtx, gtA, gtB, gtC]; (repeat refine an ?_); (try refine .inl ?_); apply k0; clear k0; simp only [zP, O])
 refine' aA (want := true) 2 rfl (m := 67) (by simp only [zP, V, O]; exact rfl) (by kernel_rfl) rfl rfl rfl rfl rfl (fun hg13 => ?a13) ?b13 ?c13
 case a13 =>
  have hq13 := hg13; (try simp only [zB, reduceCtorEq] at hg13); simp only [zE]
  iterate 2 (refine aQ rfl fun _ k0 => ?_; simp only [zO, zT, acs, reduceCtorEq, V, O, Z, ad, ab, aa, Mdl.av, Mdl.cs, List.append_eq, am, ar, gtx, gtA, gtB, gtC]; (repeat refine an ?_); (try refine .inl ?_); apply k0; clear k0; simp only [zP, O])
  (refine ae rfl fun _ k0 => ?_; simp only [zO, zT, acs, reduceCtorEq, V, O, Z, ad, ab, aa, Mdl.av, Mdl.cs, List.append_eq, am, ar, gtx, gtA, gtB, gtC]; (repeat refine an ?_); (try refine .inl ?_); apply k0; clear k0; simp only [zP, O])
  refine ag ?_
  refine ⟨by simp only [zP, V, O]; exact rfl, rfl, ?_, rfl⟩; (repeat refine az rfl ?_); exact aP (by exact rfl) hq13
 case b13 => exact bf
 simp only [aK, aF]
 (refine ae rfl fun _ k0 => ?_; simp only [zO, zT, acs, reduceCtorEq, V, O, Z, ad, ab, aa, Mdl.av, Mdl.cs, List.append_eq, am, ar, gtx, gtA, gtB, gtC]; (repeat refine an ?_); (try refine .inl ?_); apply k0; clear k0; simp only [zP, O])
 refine' aA (want := true) 2 rfl (m := 71) (by simp only [zP, V, O]; exact rfl) (by kernel_rfl) rfl rfl rfl rfl rfl (fun hg14 => ?a14) ?b14 ?c14
 case a14 =>
  have hq14 := hg14; (try simp only [zB, reduceCtorEq] at hg14); simp only [zE]
  iterate 2 (refine aQ rfl fun _ k0 => ?_; simp only [zO, zT, acs, reduceCtorEq, V, O, Z, ad, ab, aa, Mdl.av, Mdl.cs, List.append_eq, am, ar, gtx, gtA, gtB, gtC]; (repeat refine an ?_); (try refine .inl ?_); apply k0; clear k0; simp only [zP, O])
  (refine ae rfl fun _ k0 => ?_; simp only [zO, zT, acs, reduceCtorEq, V, O, Z, ad, ab, aa, Mdl.av, Mdl.cs, List.append_eq, am, ar, gtx, gtA, gtB, gtC]; (repeat refine an ?_); (try refine .inl ?_); apply k0; clear k0; simp only [zP, O])
  refine ag ?_
  refine ⟨by simp only [zP, V, O]; exact rfl, rfl, ?_, rfl⟩; (repeat refine az rfl ?_); exact aP (by exact rfl) hq14
 case b14 => exact bf
 simp only [aK, aF]
 (refine ae rfl fun _ k0 => ?_; simp only [zO, zT, acs, reduceCtorEq, V, O, Z, ad, ab, aa, Mdl.av, Mdl.cs, List.append_eq, am, ar, gtx, gtA, gtB, gtC]; (repeat refine an ?_); (try refine .inl ?_); apply k0; clear k0; simp only [zP, O])
 refine' aA (want := true) 2 rfl (m := 75) (by simp only [zP, V, O]; exact rfl) (by kernel_rfl) rfl rfl rfl rfl rfl (fun hg15 => ?a15) ?b15 ?c15
 case a15 =>
  have hq15 := hg15; (try simp only [zB, reduceCtorEq] at hg15); simp only [zE]
  iterate 2 (refine aQ rfl fun _ k0 => ?_; simp only [zO, zT, acs, reduceCtorEq, V, O, Z, ad, ab, aa, Mdl.av, Mdl.cs, List.append_eq, am, ar, gtx, gtA, gtB, gtC]; (repeat refine an ?_); (try refine .inl ?_); apply k0; clear k0; simp only [zP, O])
  (refine ae rfl fun _ k0 => ?_; simp only [zO, zT, acs, reduceCtorEq, V, O, Z, ad, ab, aa, Mdl.av, Mdl.cs, List.append_eq, am, ar, gtx, gtA, gtB, gtC]; (repeat refine an ?_); (try refine .inl ?_); apply k0; clear k0; simp only [zP, O])
  refine ag ?_
  refine ⟨by simp only [zP, V, O]; exact rfl, rfl, ?_, rfl⟩; (repeat refine az rfl ?_); exact aP (by exact rfl) hq15
 case b15 => exact bf
 simp only [aK, aF]
 (refine ae rfl fun _ k0 => ?_; simp only [zO, zT, acs, reduceCtorEq, V, O, Z, ad, ab, aa, Mdl.av, Mdl.cs, List.append_eq, am, ar, gtx, gtA, gtB, gtC]; (repeat refine an ?_); (try refine .inl ?_); apply k0; clear k0; simp only [zP, O])
 refine' aA (want := true) 2 rfl (m := 79) (by simp only [zP, V, O]; exact rfl) (by kernel_rfl) rfl rfl rfl rfl rfl (fun hg16 => ?a16) ?b16 ?c16
 case a16 =>
  have hq16 := hg16; (try simp only [zB, reduceCtorEq] at hg16); simp only [zE]
  iterate 2 (refine aQ rfl fun _ k0 => ?_; simp only [zO, zT, acs, reduceCtorEq, V, O, Z, ad, ab, aa, Mdl.av, Mdl.cs, List.append_eq, am, ar, gtx, gtA, gtB, gtC]; (repeat refine an ?_); (try refine .inl ?_); apply k0; clear k0; simp only [zP, O])
  (refine ae rfl fun _ k0 => ?_; simp only [zO, zT, acs, reduceCtorEq, V, O, Z, ad, ab, aa, Mdl.av, Mdl.cs, List.append_eq, am, ar, gtx, gtA, gtB, gtC]; (repeat refine an ?_); (try refine .inl ?_); apply k0; clear k0; simp only [zP, O])
  refine ag ?_
  refine ⟨by simp only [zP, V, O]; exact rfl, rfl, ?_, rfl⟩; (repeat refine az rfl ?_); exact aP (by exact rfl) hq16
 case b16 => exact bf
 simp only [aK, aF]
 (refine ae rfl fun _ k0 => ?_; simp only [zO, zT, acs, reduceCtorEq, V, O, Z, ad, ab, aa, Mdl.av, Mdl.cs, List.append_eq, am, ar, gtx, gtA, gtB, gtC]; (repeat refine an ?_); (try refine .inl ?_); apply k0; clear k0; simp only [zP, O])
 refine' aA (want := true) 2 rfl (m := 83) (by simp only [zP, V, O]; exact rfl) (by kernel_rfl) rfl rfl rfl rfl rfl (fun hg17 => ?a17) ?b17 ?c17
 case a17 =>
  have hq17 := hg17; (try simp only [zB, reduceCtorEq] at hg17); simp only [zE]
  iterate 2 (refine aQ rfl fun _ k0 => ?_; simp only [zO, zT, acs, reduceCtorEq, V, O, Z, ad, ab, aa, Mdl.av, Mdl.cs, List.append_eq, am, ar, gtx, gtA, gtB, gtC]; (repeat refine an ?_); (try refine .inl ?_); apply k0; clear k0; simp only [zP, O])
  (refine ae rfl fun _ k0 => ?_; simp only [zO, zT, acs, reduceCtorEq, V, O, Z, ad, ab, aa, Mdl.av, Mdl.cs, List.append_eq, am, ar, gtx, gtA, gtB, gtC]; (repeat refine an ?_); (try refine .inl ?_); apply k0; clear k0; simp only [zP, O])
  refine ag ?_
  refine ⟨by simp only [zP, V, O]; exact rfl, rfl, ?_, rfl⟩; (repeat refine az rfl ?_); exact aP (by exact rfl) hq17
 case b17 => exact bf
 simp only [aK, aF]
 (refine ae rfl fun _ k0 => ?_; simp only [zO, zT, acs, reduceCtorEq, V, O, Z, ad, ab, aa, Mdl.av, Mdl.cs, List.append_eq, am, ar, gtx, gtA, gtB, gtC]; (repeat refine an ?_); (try refine .inl ?_); apply k0; clear k0; simp only [zP, O])
 refine' aA (want := true) 2 rfl (m := 87) (by simp only [zP, V, O]; exact rfl) (by kernel_rfl) rfl rfl rfl rfl rfl (fun hg18 => ?a18) ?b18 ?c18
 case a18 =>
  have hq18 := hg18; (try simp only [zB, reduceCtorEq] at hg18); simp only [zE]
  iterate 2 (refine aQ rfl fun _ k0 => ?_; simp only [zO, zT, acs, reduceCtorEq, V, O, Z, ad, ab, aa, Mdl.av, Mdl.cs, List.append_eq, am, ar, gtx, gtA, gtB, gtC]; (repeat refine an ?_); (try refine .inl ?_); apply k0; clear k0; simp only [zP, O])
  (refine ae rfl fun _ k0 => ?_; simp only [zO, zT, acs, reduceCtorEq, V, O, Z, ad, ab, aa, Mdl.av, Mdl.cs, List.append_eq, am, ar, gtx, gtA, gtB, gtC]; (repeat refine an ?_); (try refine .inl ?_); apply k0; clear k0; simp only [zP, O])
  refine ag ?_
  refine ⟨by simp only [zP, V, O]; exact rfl, rfl, ?_, rfl⟩; (repeat refine az rfl ?_); exact aP (by exact rfl) hq18
 case b18 => exact bf
 simp only [aK, aF]
 (refine ae rfl fun _ k0 => ?_; simp only [zO, zT, acs, reduceCtorEq, V, O, Z, ad, ab, aa, Mdl.av, Mdl.cs, List.append_eq, am, ar, gtx, gtA, gtB, gtC]; (repeat refine an ?_); (try refine .inl ?_); apply k0; clear k0; simp only [zP, O])
 refine' aA (want := true) 2 rfl (m := 91) (by simp only [zP, V, O]; exact rfl) (by kernel_rfl) rfl rfl rfl rfl rfl (fun hg19 => ?a19) ?b19 ?c19
 case a19 =>
  have hq19 := hg19; (try simp only [zB, reduceCtorEq] at hg19); simp only [zE]
  iterate 2 (refine aQ rfl fun _ k0 => ?_; simp only [zO, zT, acs, reduceCtorEq, V, O, Z, ad, ab, aa, Mdl.av, Mdl.cs, List.append_eq, am, ar, gtx, gtA, gtB, gtC]; (repeat refine an ?_); (try refine .inl ?_); apply k0; clear k0; simp only [zP, O])
  (refine ae rfl fun _ k0 => ?_; simp only [zO, zT, acs, reduceCtorEq, V, O, Z, ad, ab, aa, Mdl.av, Mdl.cs, List.append_eq, am, ar, gtx, gtA, gtB, gtC]; (repeat refine an ?_); (try refine .inl ?_); apply k0; clear k0; simp only [zP, O])
  refine ag ?_
  refine ⟨by simp only [zP, V, O]; exact rfl, rfl, ?_, rfl⟩; (repeat refine az rfl ?_); exact aP (by exact rfl) hq19
 case b19 => exact bf
 simp only [aK, aF]
 (refine ae rfl fun _ k0 => ?_; simp only [zO, zT, acs, reduceCtorEq, V, O, Z, ad, ab, aa, Mdl.av, Mdl.cs, List.append_eq, am, ar, gtx, gtA, gtB, gtC]; (repeat refine an ?_); (try refine .inl ?_); apply k0; clear k0; simp only [zP, O])
 refine' aA (want := true) 2 rfl (m := 95) (by simp only [zP, V, O]; exact rfl) (by kernel_rfl) rfl rfl rfl rfl rfl (fun hg20 => ?a20) ?b20 ?c20
 case a20 =>
  have hq20 := hg20; (try simp only [zB, reduceCtorEq] at hg20); simp only [zE]
  iterate 2 (refine aQ rfl fun _ k0 => ?_; simp only [zO, zT, acs, reduceCtorEq, V, O, Z, ad, ab, aa, Mdl.av, Mdl.cs, List.append_eq, am, ar, gtx, gtA, gtB, gtC]; (repeat refine an ?_); (try refine .inl ?_); apply k0; clear k0; simp only [zP, O])
  (refine ae rfl fun _ k0 => ?_; simp only [zO, zT, acs, reduceCtorEq, V, O, Z, ad, ab, aa, Mdl.av, Mdl.cs, List.append_eq, am, ar, gtx, gtA, gtB, gtC]; (repeat refine an ?_); (try refine .inl ?_); apply k0; clear k0; simp only [zP, O])
  refine ag ?_
  refine ⟨by simp only [zP, V, O]; exact rfl, rfl, ?_, rfl⟩; (repeat refine az rfl ?_); exact aP (by exact rfl) hq20
 case b20 => exact bf
 simp only [aK, aF]
 (refine ae rfl fun _ k0 => ?_; simp only [zO, zT, acs, reduceCtorEq, V, O, Z, ad, ab, aa, Mdl.av, Mdl.cs, List.append_eq, am, ar, gtx, gtA, gtB, gtC]; (repeat refine an ?_); (try refine .inl ?_); apply k0; clear k0; simp only [zP, O])
 refine ag ?_
 refine ⟨by kernel_rfl, ?_⟩
 apply k8; clear k8; refine kp [0, 1, 2, 3, 4, 5, 7, 8, 10, 11, 13, 14, 16, 17] ?_
 refine ax ?_
 refine ⟨nr, _, rfl, ?_⟩; simp only [zF, zP, V, O, Mdl.av, Mdl.cs]
 refine VLE.of_eq ?_
 rw [iB]; rfl
theorem vo (s : Bs) (c : UInt8) (hs : s.length ≤ 1048576) : bH Tryz.prog 30 [.one (.str s), .one (.int .u8 (c.toNat : Int))] (.one (.list .str (spB c s))) := by
 refine aR Tryz.func30 rfl (by kernel_rfl) (Nat.le_of_ble_eq_true rfl) rfl fun C hP hN hB => ?_
 replace hN : C.N = 45 := hN
 simp only [aX, O]
 refine af fun _ k1 => ?_
 refine ah hP hN rfl ?_
 (refine ae rfl fun _ k0 => ?_; simp only [zO, zT, acs, reduceCtorEq, V, O, Z, ad, ab, aa]; (repeat refine an ?_); (try refine .inl ?_); apply k0; clear k0; simp only [zP, O])
 refine ag ?_
 apply k1; clear k1; refine kp [0, 1, 4] ?_
 refine af fun _ k2 => ?_
 refine ah hP hN rfl ?_
 (refine ae rfl fun _ k0 => ?_; simp only [zO, zT, acs, reduceCtorEq, V, O, Z, ad, ab, aa]; (repeat refine an ?_); refine Or.inr (Or.inl (k0 _ ?_)); clear k0; simp only [zP, O])
 (refine ae rfl fun _ k0 => ?_; simp only [zO, zT, acs, reduceCtorEq, V, O, Z, ad, ab, aa]; (repeat refine an ?_); (try refine .inl ?_); apply k0; clear k0; simp only [zP, O])
 refine ag ?_
 apply k2; clear k2; refine kp [0, 1, 4, 5] ?_
 refine af fun _ k3 => ?_
 refine ah hP hN rfl ?_
 (refine ae rfl fun _ k0 => ?_; simp only [zO, zT, acs, reduceCtorEq, V, O, Z, ad, ab, aa]; (repeat refine an ?_); (try refine .inl ?_); apply k0; clear k0; simp only [zP, O])
 refine ag ?_
 apply k3; clear k3; refine kp [0, 1, 4, 5, 6] ?_
 refine af fun _ k4 => ?_
 refine af fun _ k5 => ?_
 refine ah hP hN rfl ?_
 (refine ae rfl fun _ k0 => ?_; simp only [zO, zT, acs, reduceCtorEq, V, O, Z, ad, ab, aa]; (repeat refine an ?_); (try refine .inl ?_); apply k0; clear k0; simp only [zP, O])
 refine ag ?_
 apply k5; clear k5; refine kp [0, 1, 4, 5, 6, 7] ?_
 refine aE ?_
 refine bn (fun n6 s6 => ∃ (k : Nat) (v : Nat) (o : List Bs) (f : Nat), (k ≤ s.length + 1) ∧ (k ≤ s.length → o = (eo c s k).1 ++ [[]] ∧ f = (eo c s k).2) ∧ (k = s.length + 1 → o = spB c s) ∧ n6 = s.length + 1 - k ∧ s6 = { env := [(0, .one (.str s)), (1, .one (.int .u8 (c.toNat : Int))), (4, .one .nils), (5, .one (.row 0 v)), (6, .one (.int .i64 (f : Int))), (7, .one (.int .i64 (k : Int)))], L := [.row .str 9 v o] }) ?_ ?_
 ·exact ⟨_, _, aB [0, 1, 4, 5, 6, 7], 0, 0, [[]], 0, by omega, fun _ => ⟨rfl, rfl⟩, fun h => by omega, rfl, rfl⟩
 rintro n6 s6 ⟨k, v, o, f, hk, ho, he, rfl, rfl⟩
 refine af fun _ k7 => ?_
 refine af fun _ k8 => ?_
 refine ah hP hN rfl ?_
 iterate 4 (refine ae rfl fun _ k0 => ?_; simp only [zO, zT, acs, reduceCtorEq, V, O, Z, ad, ab, aa]; (repeat refine an ?_); (try refine .inl ?_); apply k0; clear k0; simp only [zP, O])
 refine ag ?_
 apply k8; clear k8; refine kp [0, 1, 4, 5, 6, 7, 12] ?_
 refine cd (fun hc9 => ?_) (fun hc9 => ?_)
 ·(try simp only [zB, reduceCtorEq] at hc9)
  have hks : k ≤ s.length := by omega
  obtain ⟨rfl, rfl⟩ := ho hks
  have hcf := jj c s k; have hcl := oh c s k
  refine ay ?_
  apply k7; clear k7; refine kp [0, 1, 4, 5, 6, 7, 12] ?_
  refine af fun _ k10 => ?_
  refine aE ?_
  refine af fun _ k11 => ?_
  refine ah hP hN rfl ?_
  iterate 5 (refine ae rfl fun _ k0 => ?_; simp only [zO, zT, acs, reduceCtorEq, V, O, Z, ad, ab, aa]; (repeat refine an ?_); (try refine .inl ?_); apply k0; clear k0; simp only [zP, O])
  refine' aA (want := false) 5 rfl (m := 19) (by simp only [zP, V, O]; exact rfl) (by kernel_rfl) rfl rfl rfl rfl rfl (fun hg12 => ?a12) ?b12 ?c12
  case a12 =>
   have hq12 := hg12; (try simp only [zB, reduceCtorEq] at hg12); simp only [zE]
   iterate 5 (refine aQ rfl fun _ k0 => ?_; simp only [zO, zT, acs, reduceCtorEq, V, O, Z, ad, ab, aa]; (repeat refine an ?_); (try refine .inl ?_); apply k0; clear k0; simp only [zP, O])
   (refine ae rfl fun _ k0 => ?_; simp only [zO, zT, acs, reduceCtorEq, V, O, Z, ad, ab, aa]; (repeat refine an ?_); (try refine .inl ?_); apply k0; clear k0; simp only [zP, O])
   refine ag ?_
   refine ⟨by simp only [zP, V, O]; exact rfl, rfl, ?_, rfl⟩; (repeat refine az rfl ?_); exact aP (by exact rfl) hq12
  case b12 => exact bf
  simp only [aK, aF]
  refine ag ?_
  apply k11; clear k11; refine kp [0, 1, 4, 5, 6, 7, 12, 25] ?_
  refine cd (fun hc13 => ?_) (fun hc13 => ?_)
  ·(try simp only [zB, reduceCtorEq] at hc13)
   refine af fun _ k14 => ?_
   refine ah hP hN rfl ?_
   iterate 7 (refine ae rfl fun _ k0 => ?_; simp only [zO, zT, acs, reduceCtorEq, V, O, Z, ad, ab, aa, aq, ak, aw]; (repeat refine an ?_); (try refine .inl ?_); apply k0; clear k0; simp only [zP, O, oP, eY])
   (refine ae rfl fun _ k0 => ?_; simp only [zE, op1, ev, lkp, db, bB, cT, j4, iv, cm, cZ, fJ, Nat.div_one, dC, dh, Ty.size, b0, dite_true, fh, bI, dx, dU, dd, ef, ck, bnd, cO, zG, Ty.dflt, Nat.mul_one, ne_eq, not_false_eq_true, Int.natCast_one, Int.mul_one, d7, bp, bc, acs, reduceCtorEq, V, O, Z, ad, ab, aa, Tryz.el22, Tryz.td22, Tryz.td3, Tryz.td9, aq, ak, aw]; (repeat refine an ?_); (try refine .inl ?_); apply k0; clear k0; simp only [zP, O, oP, eY])
   iterate 2 (refine ae rfl fun _ k0 => ?_; simp only [zO, zT, acs, reduceCtorEq, V, O, Z, ad, ab, aa, aq, ak, aw]; (repeat refine an ?_); (try refine .inl ?_); apply k0; clear k0; simp only [zP, O, oP, eY])
   refine ag ?_
   apply k14; clear k14; refine kp [0, 1, 4, 5, 6, 7, 12, 25] ?_
   refine af fun _ k15 => ?_
   refine ah hP hN rfl ?_
   iterate 3 (refine ae rfl fun _ k0 => ?_; simp only [zO, zT, acs, reduceCtorEq, V, O, Z, ad, ab, aa]; (repeat refine an ?_); (try refine .inl ?_); apply k0; clear k0; simp only [zP, O])
   refine ag ?_
   apply k15; clear k15; refine kp [0, 1, 4, 5, 6, 7, 12, 25] ?_
   refine af fun _ k16 => ?_
   refine ah hP hN rfl ?_
   iterate 4 (refine ae rfl fun _ k0 => ?_; simp only [zO, zT, acs, reduceCtorEq, V, O, Z, ad, ab, aa]; (repeat refine an ?_); (try refine .inl ?_); apply k0; clear k0; simp only [zP, O])
   refine ag ?_
   apply k16; clear k16; refine kp [0, 1, 4, 5, 6, 7, 12, 25, 40] ?_
   refine cd (fun hc17 => ?_) (fun hc17 => ?_)
   ·(try simp only [zB, reduceCtorEq] at hc17)
    refine ah hP hN rfl ?_
    iterate 4 (refine ae rfl fun _ k0 => ?_; simp only [zO, zT, acs, reduceCtorEq, V, O, Z, ad, ab, aa, aq, ak, aw]; (repeat refine an ?_); (try refine .inl ?_); apply k0; clear k0; simp only [zP, O])
    refine ag ?_
    apply k10; clear k10; refine kp [0, 1, 4, 5, 6, 7, 12, 25, 40] ?_
    refine ah hP hN rfl ?_
    iterate 3 (refine ae rfl fun _ k0 => ?_; simp only [zO, zT, acs, reduceCtorEq, V, O, Z, ad, ab, aa]; (repeat refine an ?_); (try refine .inl ?_); apply k0; clear k0; simp only [zP, O])
    refine ag ?_
    first
    | (have h32 : bt s k = (c.toNat : Int) := by unfold bt; omega
       refine ⟨_, _, ?_, aB [0, 1, 4, 5, 6, 7], k + 1, v + 1, _, k + 1, by omega, fun _ => ?_, fun h => by omega, rfl, rfl⟩
       · omega
       · rw [iJ h32]; exact ⟨rfl, rfl⟩)
    | (refine ⟨_, _, ?_, aB [0, 1, 4, 5, 6, 7], k + 1, v, _, k + 1, by omega, fun h => by omega, fun _ => ?_, rfl, rfl⟩
       · omega
       · have e : k = s.length := by omega
         subst e; exact kz c s)
    | (have h32 : ¬ bt s k = (c.toNat : Int) := by unfold bt; omega
       refine ⟨_, _, ?_, aB [0, 1, 4, 5, 6, 7], k + 1, v, _, _, by omega, fun h => ?_, fun h => by omega, rfl, rfl⟩
       · omega
       · rw [jB h32]; exact ⟨rfl, rfl⟩)
   (try simp only [zB, reduceCtorEq] at hc17)
   refine ay ?_
   apply k10; clear k10; refine kp [0, 1, 4, 5, 6, 7, 12, 25, 40] ?_
   refine ah hP hN rfl ?_
   iterate 3 (refine ae rfl fun _ k0 => ?_; simp only [zO, zT, acs, reduceCtorEq, V, O, Z, ad, ab, aa]; (repeat refine an ?_); (try refine .inl ?_); apply k0; clear k0; simp only [zP, O])
   refine ag ?_
   first
   | (have h32 : bt s k = (c.toNat : Int) := by unfold bt; omega
      refine ⟨_, _, ?_, aB [0, 1, 4, 5, 6, 7], k + 1, v + 1, _, k + 1, by omega, fun _ => ?_, fun h => by omega, rfl, rfl⟩
      · omega
      · rw [iJ h32]; exact ⟨rfl, rfl⟩)
   | (refine ⟨_, _, ?_, aB [0, 1, 4, 5, 6, 7], k + 1, v, _, k + 1, by omega, fun h => by omega, fun _ => ?_, rfl, rfl⟩
      · omega
      · have e : k = s.length := by omega
        subst e; exact kz c s)
   | (have h32 : ¬ bt s k = (c.toNat : Int) := by unfold bt; omega
      refine ⟨_, _, ?_, aB [0, 1, 4, 5, 6, 7], k + 1, v, _, _, by omega, fun h => ?_, fun h => by omega, rfl, rfl⟩
      · omega
      · rw [jB h32]; exact ⟨rfl, rfl⟩)
  (try simp only [zB, reduceCtorEq] at hc13)
  refine ay ?_
  apply k10; clear k10; refine kp [0, 1, 4, 5, 6, 7, 12, 25] ?_
  refine ah hP hN rfl ?_
  iterate 3 (refine ae rfl fun _ k0 => ?_; simp only [zO, zT, acs, reduceCtorEq, V, O, Z, ad, ab, aa]; (repeat refine an ?_); (try refine .inl ?_); apply k0; clear k0; simp only [zP, O])
  refine ag ?_
  first
  | (have h32 : bt s k = (c.toNat : Int) := by unfold bt; omega
     refine ⟨_, _, ?_, aB [0, 1, 4, 5, 6, 7], k + 1, v + 1, _, k + 1, by omega, fun _ => ?_, fun h => by omega, rfl, rfl⟩
     · omega
     · rw [iJ h32]; exact ⟨rfl, rfl⟩)
  | (refine ⟨_, _, ?_, aB [0, 1, 4, 5, 6, 7], k + 1, v, _, k + 1, by omega, fun h => by omega, fun _ => ?_, rfl, rfl⟩
     · omega
     · have e : k = s.length := by omega
       subst e; exact kz c s)
  | (have h32 : ¬ bt s k = (c.toNat : Int) := by unfold bt; omega
     refine ⟨_, _, ?_, aB [0, 1, 4, 5, 6, 7], k + 1, v, _, _, by omega, fun h => ?_, fun h => by omega, rfl, rfl⟩
     · omega
     · rw [jB h32]; exact ⟨rfl, rfl⟩)
 (try simp only [zB, reduceCtorEq] at hc9)
 refine bh ?_
 apply k4; clear k4; refine kp [0, 1, 4, 5, 6, 7, 12] ?_
 refine af fun _ k18 => ?_
 refine ah hP hN rfl ?_
 iterate 2 (refine ae rfl fun _ k0 => ?_; simp only [zO, zT, acs, reduceCtorEq, V, O, Z, ad, ab, aa]; (repeat refine an ?_); (try refine .inl ?_); apply k0; clear k0; simp only [zP, O])
 refine ag ?_
 apply k18; clear k18; refine kp [0, 1, 4, 5, 6, 7, 12] ?_
 refine ax ?_
 refine ⟨nr, _, rfl, ?_⟩; simp only [zF, zP, V, O]
 refine VLE.of_eq ?_
 rw [he (by omega)]
theorem sT (s : Bs) (hs : s.length ≤ 1048576) : bH Tryz.prog 30 [.one (.str s), .one (.int .u8 10)] (.one (.list .str (spB 10 s))) := vo s 10 hs
theorem dy (xs : List Bs) (x : Bs) : bH Tryz.prog 43 [.agg [.list .str xs], .one (.str x)] (.tup [.one (.int .i64 (idA xs x)), .one (.bool (decide (x ∈ xs)))]) := by
 refine aR Tryz.func43 rfl (by kernel_rfl) (Nat.le_of_ble_eq_true rfl) rfl fun C hP hN hB => ?_
 replace hN : C.N = 22 := hN
 simp only [aX, O]
 refine gx 0 rfl fun hf0 => ?_; simp only [lkp, if_true, if_false, reduceCtorEq, V, eq_self, Nat.one_ne_zero, Nat.zero_ne_one, lz, kw, kg, Fit, and_true, implies_true, true_and] at hf0
 refine af fun _ k1 => ?_
 refine ah hP hN rfl ?_
 iterate 3 (refine ae rfl fun _ k0 => ?_; simp only [zO, zT, acs, reduceCtorEq, V, O, Z, ad, ab, aa]; (repeat refine an ?_); (try refine .inl ?_); apply k0; clear k0; simp only [zP, O])
 refine ag ?_
 apply k1; clear k1; refine kp [0, 1, 2, 4, 5] ?_
 refine af fun _ k2 => ?_
 refine af fun _ k3 => ?_
 refine ah hP hN rfl ?_
 (refine ae rfl fun _ k0 => ?_; simp only [zO, zT, acs, reduceCtorEq, V, O, Z, ad, ab, aa]; (repeat refine an ?_); (try refine .inl ?_); apply k0; clear k0; simp only [zP, O])
 refine ag ?_
 apply k3; clear k3; refine kp [0, 1, 2, 4, 5, 6] ?_
 refine aE ?_
 refine bn (fun n4 s4 => ∃ (k : Nat), (k ≤ xs.length) ∧ (∀ q, q < k → xs.getD q [] ≠ x) ∧ n4 = xs.length - k ∧ s4 = { env := [(1, .one (.str x)), (2, .one (.ptr 0 0 0 0)), (4, .one (.int .i64 0)), (5, .one (.bool false)), (6, .one (.int .i64 (k : Int)))], L := [.vars 24 [.list .str xs]] }) ?_ ?_
 ·exact ⟨_, _, aB [1, 2, 4, 5, 6], 0, Nat.zero_le _, fun q hq => by omega, rfl, rfl⟩
 rintro n4 s4 ⟨k, hk, hq, rfl, rfl⟩
 refine af fun _ k5 => ?_
 refine af fun _ k6 => ?_
 refine ah hP hN rfl ?_
 iterate 5 (refine ae rfl fun _ k0 => ?_; simp only [zO, zT, acs, reduceCtorEq, V, O, Z, ad, ab, aa]; (repeat refine an ?_); (try refine .inl ?_); apply k0; clear k0; simp only [zP, O])
 refine ag ?_
 apply k6; clear k6; refine kp [1, 2, 4, 5, 6, 11] ?_
 refine cd (fun hc7 => ?_) (fun hc7 => ?_)
 ·(try simp only [zB, reduceCtorEq] at hc7)
  refine ay ?_
  apply k5; clear k5; refine kp [1, 2, 4, 5, 6, 11] ?_
  refine af fun _ k8 => ?_
  refine aE ?_
  refine af fun _ k9 => ?_
  refine ah hP hN rfl ?_
  iterate 7 (refine ae rfl fun _ k0 => ?_; simp only [zO, zT, acs, reduceCtorEq, V, O, Z, ad, ab, aa]; (repeat refine an ?_); (try refine .inl ?_); apply k0; clear k0; simp only [zP, O])
  refine ag ?_
  apply k9; clear k9; refine kp [1, 2, 4, 5, 6, 11, 20] ?_
  refine cd (fun hc10 => ?_) (fun hc10 => ?_)
  ·(try simp only [zB, reduceCtorEq] at hc10)
   have hme : xs.getD k [] = x := by first | exact hc10 | exact (hc10).symm
   refine af fun _ k11 => ?_
   refine ah hP hN rfl ?_
   iterate 3 (refine ae rfl fun _ k0 => ?_; simp only [zO, zT, acs, reduceCtorEq, V, O, Z, ad, ab, aa]; (repeat refine an ?_); (try refine .inl ?_); apply k0; clear k0; simp only [zP, O])
   refine ag ?_
   apply k11; clear k11; refine kp [1, 2, 4, 5, 6, 11, 20] ?_
   refine ax ?_
   refine ⟨nr, _, rfl, ?_⟩; simp only [zF, zP, V, O]
   refine VLE.of_eq ?_
   unfold idA
   first
   | (have g9 := km (fun q hq2 => hq q hq2) (by omega) hme; obtain ⟨g1, g2⟩ := g9; rw [if_pos g2, g1]; simp [g2]; done)
   | (have g2 := nj (q := x) (l := xs) fun q hq2 => hq q (by omega); rw [if_neg g2]; simp [g2]; done)
  (try simp only [zB, reduceCtorEq] at hc10)
  have hne : xs.getD k [] ≠ x := by first | exact hc10 | exact Ne.symm hc10
  refine ay ?_
  apply k8; clear k8; refine kp [1, 2, 4, 5, 6, 11, 20] ?_
  refine ah hP hN rfl ?_
  iterate 3 (refine ae rfl fun _ k0 => ?_; simp only [zO, zT, acs, reduceCtorEq, V, O, Z, ad, ab, aa]; (repeat refine an ?_); (try refine .inl ?_); apply k0; clear k0; simp only [zP, O])
  refine ag ?_
  refine ⟨_, _, ?_, aB [1, 2, 4, 5, 6], k + 1, by omega, fun q hq2 => ?_, rfl, rfl⟩
  · omega
  · by_cases e : q = k
    · rw [e]; exact hne
    · exact hq q (by omega)
 (try simp only [zB, reduceCtorEq] at hc7)
 refine bh ?_
 apply k2; clear k2; refine kp [1, 2, 4, 5, 6, 11] ?_
 refine af fun _ k12 => ?_
 refine ah hP hN rfl ?_
 iterate 2 (refine ae rfl fun _ k0 => ?_; simp only [zO, zT, acs, reduceCtorEq, V, O, Z, ad, ab, aa]; (repeat refine an ?_); (try refine .inl ?_); apply k0; clear k0; simp only [zP, O])
 refine ag ?_
 apply k12; clear k12; refine kp [1, 2, 4, 5, 6, 11] ?_
 refine ax ?_
 refine ⟨nr, _, rfl, ?_⟩; simp only [zF, zP, V, O]
 refine VLE.of_eq ?_
 unfold idA
 first
 | (have g9 := km (fun q hq2 => hq q hq2) (by omega) hme; obtain ⟨g1, g2⟩ := g9; rw [if_pos g2, g1]; simp [g2]; done)
 | (have g2 := nj (q := x) (l := xs) fun q hq2 => hq q (by omega); rw [if_neg g2]; simp [g2]; done)
theorem nM (s : Bs) (hs : s.length ≤ 1048576) : bH Tryz.prog 25 [.one (.str s)] (.one (.bool (aY s))) := by
 refine aR Tryz.func25 rfl (by kernel_rfl) (Nat.le_of_ble_eq_true rfl) rfl fun C hP hN hB => ?_
 replace hN : C.N = 56 := hN
 simp only [aX, O]
 refine af fun _ k1 => ?_
 refine ah hP hN rfl ?_
 (refine ae rfl fun _ k0 => ?_; simp only [zO, zT, acs, reduceCtorEq, V, O, Z, ad, ab, aa]; (repeat refine an ?_); (try refine .inl ?_); apply k0; clear k0; simp only [zP, O])
 refine ag ?_
 apply k1; clear k1; refine kp [0, 2] ?_
 refine af fun _ k2 => ?_
 refine af fun _ k3 => ?_
 refine ah hP hN rfl ?_
 (refine ae rfl fun _ k0 => ?_; simp only [zO, zT, acs, reduceCtorEq, V, O, Z, ad, ab, aa]; (repeat refine an ?_); (try refine .inl ?_); apply k0; clear k0; simp only [zP, O])
 refine ag ?_
 apply k3; clear k3; refine kp [0, 2, 3] ?_
 refine aE ?_
 refine bn (fun n4 s4 => ∃ (k : Nat), (k ≤ s.length) ∧ (∀ j, j < k → okI (bt s j)) ∧ n4 = s.length - k ∧ s4 = { env := [(0, .one (.str s)), (2, .one (.bool false)), (3, .one (.int .i64 (k : Int)))], L := [] }) ?_ ?_
 ·exact ⟨_, _, aB [0, 2, 3], 0, Nat.zero_le _, fun q hq => by omega, rfl, rfl⟩
 rintro n4 s4 ⟨k, hk, hI, rfl, rfl⟩
 refine af fun _ k5 => ?_
 refine af fun _ k6 => ?_
 refine ah hP hN rfl ?_
 iterate 4 (refine ae rfl fun _ k0 => ?_; simp only [zO, zT, acs, reduceCtorEq, V, O, Z, ad, ab, aa]; (repeat refine an ?_); (try refine .inl ?_); apply k0; clear k0; simp only [zP, O])
 refine ag ?_
 apply k6; clear k6; refine kp [0, 2, 3, 8] ?_
 refine cd (fun hc7 => ?_) (fun hc7 => ?_)
 ·(try simp only [zB, reduceCtorEq] at hc7)
  have hpos : k < s.length := by omega
  refine ay ?_
  apply k5; clear k5; refine kp [0, 2, 3, 8] ?_
  refine af fun _ k8 => ?_
  refine aE ?_
  refine af fun _ k9 => ?_
  refine ah hP hN rfl ?_
  iterate 4 (refine ae rfl fun _ k0 => ?_; simp only [zO, zT, acs, reduceCtorEq, V, O, Z, ad, ab, aa]; (repeat refine an ?_); (try refine .inl ?_); apply k0; clear k0; simp only [zP, O])
  refine ag ?_
  apply k9; clear k9; refine kp [0, 2, 3, 4, 8] ?_
  refine af fun _ k10 => ?_
  refine ah hP hN rfl ?_
  iterate 3 (refine ae rfl fun _ k0 => ?_; simp only [zO, zT, acs, reduceCtorEq, V, O, Z, ad, ab, aa]; (repeat refine an ?_); (try refine .inl ?_); apply k0; clear k0; simp only [zP, O])
  refine' aA (want := false) 2 rfl (m := 16) (by simp only [zP, V, O]; exact rfl) (by kernel_rfl) rfl rfl rfl rfl rfl (fun hg11 => ?a11) ?b11 ?c11
  case a11 =>
   have hq11 := hg11; (try simp only [zB, reduceCtorEq] at hg11); simp only [zE]
   iterate 2 (refine aQ rfl fun _ k0 => ?_; simp only [zO, zT, acs, reduceCtorEq, V, O, Z, ad, ab, aa]; (repeat refine an ?_); (try refine .inl ?_); apply k0; clear k0; simp only [zP, O])
   (refine ae rfl fun _ k0 => ?_; simp only [zO, zT, acs, reduceCtorEq, V, O, Z, ad, ab, aa]; (repeat refine an ?_); (try refine .inl ?_); apply k0; clear k0; simp only [zP, O])
   refine ag ?_
   refine ⟨by simp only [zP, V, O]; exact rfl, rfl, ?_, rfl⟩; (repeat refine az rfl ?_); exact aP (by exact rfl) hq11
  case b11 => exact bf
  simp only [aK, aF]
  (refine ae rfl fun _ k0 => ?_; simp only [zO, zT, acs, reduceCtorEq, V, O, Z, ad, ab, aa]; (repeat refine an ?_); (try refine .inl ?_); apply k0; clear k0; simp only [zP, O])
  refine' aA (want := true) 6 rfl (m := 20) (by simp only [zP, V, O]; exact rfl) (by kernel_rfl) rfl rfl rfl rfl rfl (fun hg12 => ?a12) ?b12 ?c12
  case a12 =>
   have hq12 := hg12; (try simp only [zB, reduceCtorEq] at hg12); simp only [zE]
   iterate 3 (refine aQ rfl fun _ k0 => ?_; simp only [zO, zT, acs, reduceCtorEq, V, O, Z, ad, ab, aa]; (repeat refine an ?_); (try refine .inl ?_); apply k0; clear k0; simp only [zP, O])
   refine' aA (want := false) 2 rfl (m := 23) (by simp only [zP, V, O]; exact rfl) (by kernel_rfl) rfl rfl rfl rfl rfl (fun hg13 => ?a13) ?b13 ?c13
   case a13 =>
    have hq13 := hg13; (try simp only [zB, reduceCtorEq] at hg13); simp only [zE]
    iterate 3 (refine aQ rfl fun _ k0 => ?_; simp only [zO, zT, acs, reduceCtorEq, V, O, Z, ad, ab, aa]; (repeat refine an ?_); (try refine .inl ?_); apply k0; clear k0; simp only [zP, O])
    refine ag ?_
    refine ⟨by simp only [zP, V, O]; exact rfl, rfl, ?_, rfl⟩; (repeat refine az rfl ?_); exact aP (by exact rfl) hq13
   case b13 => exact bf
   simp only [aK, aF]
   (refine ae rfl fun _ k0 => ?_; simp only [zO, zT, acs, reduceCtorEq, V, O, Z, ad, ab, aa]; (repeat refine an ?_); (try refine .inl ?_); apply k0; clear k0; simp only [zP, O])
   refine ag ?_
   refine ⟨by simp only [zP, V, O]; exact rfl, rfl, ?_, rfl⟩; (repeat refine az rfl ?_); exact aP (by exact rfl) hq12
  case b12 => exact bf
  simp only [aK, aF]
  (refine ae rfl fun _ k0 => ?_; simp only [zO, zT, acs, reduceCtorEq, V, O, Z, ad, ab, aa]; (repeat refine an ?_); (try refine .inl ?_); apply k0; clear k0; simp only [zP, O])
  refine' aA (want := true) 6 rfl (m := 28) (by simp only [zP, V, O]; exact rfl) (by kernel_rfl) rfl rfl rfl rfl rfl (fun hg14 => ?a14) ?b14 ?c14
  case a14 =>
   have hq14 := hg14; (try simp only [zB, reduceCtorEq] at hg14); simp only [zE]
   iterate 3 (refine aQ rfl fun _ k0 => ?_; simp only [zO, zT, acs, reduceCtorEq, V, O, Z, ad, ab, aa]; (repeat refine an ?_); (try refine .inl ?_); apply k0; clear k0; simp only [zP, O])
   refine' aA (want := false) 2 rfl (m := 31) (by simp only [zP, V, O]; exact rfl) (by kernel_rfl) rfl rfl rfl rfl rfl (fun hg15 => ?a15) ?b15 ?c15
   case a15 =>
    have hq15 := hg15; (try simp only [zB, reduceCtorEq] at hg15); simp only [zE]
    iterate 3 (refine aQ rfl fun _ k0 => ?_; simp only [zO, zT, acs, reduceCtorEq, V, O, Z, ad, ab, aa]; (repeat refine an ?_); (try refine .inl ?_); apply k0; clear k0; simp only [zP, O])
    refine ag ?_
    refine ⟨by simp only [zP, V, O]; exact rfl, rfl, ?_, rfl⟩; (repeat refine az rfl ?_); exact aP (by exact rfl) hq15
   case b15 => exact bf
   simp only [aK, aF]
   (refine ae rfl fun _ k0 => ?_; simp only [zO, zT, acs, reduceCtorEq, V, O, Z, ad, ab, aa]; (repeat refine an ?_); (try refine .inl ?_); apply k0; clear k0; simp only [zP, O])
   refine ag ?_
   refine ⟨by simp only [zP, V, O]; exact rfl, rfl, ?_, rfl⟩; (repeat refine az rfl ?_); exact aP (by exact rfl) hq14
  case b14 => exact bf
  simp only [aK, aF]
  (refine ae rfl fun _ k0 => ?_; simp only [zO, zT, acs, reduceCtorEq, V, O, Z, ad, ab, aa]; (repeat refine an ?_); (try refine .inl ?_); apply k0; clear k0; simp only [zP, O])
  refine' aA (want := true) 2 rfl (m := 36) (by simp only [zP, V, O]; exact rfl) (by kernel_rfl) rfl rfl rfl rfl rfl (fun hg16 => ?a16) ?b16 ?c16
  case a16 =>
   have hq16 := hg16; (try simp only [zB, reduceCtorEq] at hg16); simp only [zE]
   iterate 2 (refine aQ rfl fun _ k0 => ?_; simp only [zO, zT, acs, reduceCtorEq, V, O, Z, ad, ab, aa]; (repeat refine an ?_); (try refine .inl ?_); apply k0; clear k0; simp only [zP, O])
   (refine ae rfl fun _ k0 => ?_; simp only [zO, zT, acs, reduceCtorEq, V, O, Z, ad, ab, aa]; (repeat refine an ?_); (try refine .inl ?_); apply k0; clear k0; simp only [zP, O])
   refine ag ?_
   refine ⟨by simp only [zP, V, O]; exact rfl, rfl, ?_, rfl⟩; (repeat refine az rfl ?_); exact aP (by exact rfl) hq16
  case b16 => exact bf
  simp only [aK, aF]
  (refine ae rfl fun _ k0 => ?_; simp only [zO, zT, acs, reduceCtorEq, V, O, Z, ad, ab, aa]; (repeat refine an ?_); (try refine .inl ?_); apply k0; clear k0; simp only [zP, O])
  refine' aA (want := true) 2 rfl (m := 40) (by simp only [zP, V, O]; exact rfl) (by kernel_rfl) rfl rfl rfl rfl rfl (fun hg17 => ?a17) ?b17 ?c17
  case a17 =>
   have hq17 := hg17; (try simp only [zB, reduceCtorEq] at hg17); simp only [zE]
   iterate 2 (refine aQ rfl fun _ k0 => ?_; simp only [zO, zT, acs, reduceCtorEq, V, O, Z, ad, ab, aa]; (repeat refine an ?_); (try refine .inl ?_); apply k0; clear k0; simp only [zP, O])
   (refine ae rfl fun _ k0 => ?_; simp only [zO, zT, acs, reduceCtorEq, V, O, Z, ad, ab, aa]; (repeat refine an ?_); (try refine .inl ?_); apply k0; clear k0; simp only [zP, O])
   refine ag ?_
   refine ⟨by simp only [zP, V, O]; exact rfl, rfl, ?_, rfl⟩; (repeat refine az rfl ?_); exact aP (by exact rfl) hq17
  case b17 => exact bf
  simp only [aK, aF]
  (refine ae rfl fun _ k0 => ?_; simp only [zO, zT, acs, reduceCtorEq, V, O, Z, ad, ab, aa]; (repeat refine an ?_); (try refine .inl ?_); apply k0; clear k0; simp only [zP, O])
  refine' aA (want := true) 2 rfl (m := 44) (by simp only [zP, V, O]; exact rfl) (by kernel_rfl) rfl rfl rfl rfl rfl (fun hg18 => ?a18) ?b18 ?c18
  case a18 =>
   have hq18 := hg18; (try simp only [zB, reduceCtorEq] at hg18); simp only [zE]
   iterate 2 (refine aQ rfl fun _ k0 => ?_; simp only [zO, zT, acs, reduceCtorEq, V, O, Z, ad, ab, aa]; (repeat refine an ?_); (try refine .inl ?_); apply k0; clear k0; simp only [zP, O])
   (refine ae rfl fun _ k0 => ?_; simp only [zO, zT, acs, reduceCtorEq, V, O, Z, ad, ab, aa]; (repeat refine an ?_); (try refine .inl ?_); apply k0; clear k0; simp only [zP, O])
   refine ag ?_
   refine ⟨by simp only [zP, V, O]; exact rfl, rfl, ?_, rfl⟩; (repeat refine az rfl ?_); exact aP (by exact rfl) hq18
  case b18 => exact bf
  simp only [aK, aF]
  refine ag ?_
  apply k10; clear k10; refine kp [0, 2, 3, 4, 8, 47] ?_
  refine cd (fun hc19 => ?_) (fun hc19 => ?_)
  ·(try simp only [zB, reduceCtorEq] at hc19)
   have ho : ¬ okI (bt s k) := by unfold okI bt; omega
   refine af fun _ k20 => ?_
   refine ah hP hN rfl ?_
   (refine ae rfl fun _ k0 => ?_; simp only [zO, zT, acs, reduceCtorEq, V, O, Z, ad, ab, aa]; (repeat refine an ?_); (try refine .inl ?_); apply k0; clear k0; simp only [zP, O])
   refine ag ?_
   apply k20; clear k20; refine kp [0, 2, 3, 4, 8, 47] ?_
   refine ax ?_
   refine ⟨nr, _, rfl, ?_⟩; simp only [zF, zP, V, O]
   refine VLE.of_eq ?_
   refine congrArg (fun b => AV.one (AC.bool b)) ?_
   symm
   first
   | exact iL hpos ho
   | exact iP fun j hj => hI j (by omega)
  (try simp only [zB, reduceCtorEq] at hc19)
  have ho : okI (bt s k) := by unfold okI bt; omega
  refine ay ?_
  apply k8; clear k8; refine kp [0, 2, 3, 4, 8, 47] ?_
  refine ah hP hN rfl ?_
  iterate 3 (refine ae rfl fun _ k0 => ?_; simp only [zO, zT, acs, reduceCtorEq, V, O, Z, ad, ab, aa]; (repeat refine an ?_); (try refine .inl ?_); apply k0; clear k0; simp only [zP, O])
  refine ag ?_
  refine ⟨_, _, ?_, aB [0, 2, 3], k + 1, by omega, fun j hj => ?_, rfl, rfl⟩
  · omega
  · by_cases e : j = k
    · rw [e]; exact ho
    · exact hI j (by omega)
 (try simp only [zB, reduceCtorEq] at hc7)
 refine bh ?_
 apply k2; clear k2; refine kp [0, 2, 3, 8] ?_
 refine af fun _ k21 => ?_
 refine ah hP hN rfl ?_
 iterate 4 (refine ae rfl fun _ k0 => ?_; simp only [zO, zT, acs, reduceCtorEq, V, O, Z, ad, ab, aa]; (repeat refine an ?_); (try refine .inl ?_); apply k0; clear k0; simp only [zP, O])
 refine' aA (want := true) 3 rfl (m := 51) (by simp only [zP, V, O]; exact rfl) (by kernel_rfl) rfl rfl rfl rfl rfl (fun hg22 => ?a22) ?b22 ?c22
 case a22 =>
  have hq22 := hg22; (try simp only [zB, reduceCtorEq] at hg22); simp only [zE]
  iterate 3 (refine aQ rfl fun _ k0 => ?_; simp only [zO, zT, acs, reduceCtorEq, V, O, Z, ad, ab, aa]; (repeat refine an ?_); (try refine .inl ?_); apply k0; clear k0; simp only [zP, O])
  (refine ae rfl fun _ k0 => ?_; simp only [zO, zT, acs, reduceCtorEq, V, O, Z, ad, ab, aa]; (repeat refine an ?_); (try refine .inl ?_); apply k0; clear k0; simp only [zP, O])
  refine ag ?_
  refine ⟨by simp only [zP, V, O]; exact rfl, rfl, ?_, rfl⟩; (repeat refine az rfl ?_); exact aP (by exact rfl) hq22
 case b22 => exact bf
 simp only [aK, aF]
 (refine ae rfl fun _ k0 => ?_; simp only [zO, zT, acs, reduceCtorEq, V, O, Z, ad, ab, aa]; (repeat refine an ?_); (try refine .inl ?_); apply k0; clear k0; simp only [zP, O])
 refine ag ?_
 apply k21; clear k21; refine kp [0, 2, 3, 8] ?_
 refine ax ?_
 refine ⟨nr, _, rfl, ?_⟩; simp only [zF, zP, V, O]
 refine VLE.of_eq ?_
 refine congrArg (fun b => AV.one (AC.bool b)) ?_
 symm
 first
 | exact iL hpos ho
 | exact iP fun j hj => hI j (by omega)
theorem lC (xs : List Bs) (hn : ∀ k, k < xs.length → (xs.getD k []).length ≤ 1048576) : bH Tryz.prog 26 [.agg [.list .str xs]] (.one (.int .i64 (alE xs))) := by
 refine aR Tryz.func26 rfl (by kernel_rfl) (Nat.le_of_ble_eq_true rfl) rfl fun C hP hN hB => ?_
 replace hN : C.N = 41 := hN
 simp only [aX, O]
 refine af fun _ k1 => ?_
 refine ah hP hN rfl ?_
 iterate 2 (refine ae rfl fun _ k0 => ?_; simp only [zO, zT, acs, reduceCtorEq, V, O, Z, ad, ab, aa]; (repeat refine an ?_); (try refine .inl ?_); apply k0; clear k0; simp only [zP, O])
 refine ag ?_
 apply k1; clear k1; refine kp [0, 1, 2] ?_
 refine af fun _ k2 => ?_
 refine af fun _ k3 => ?_
 refine ah hP hN rfl ?_
 iterate 4 (refine ae rfl fun _ k0 => ?_; simp only [zO, zT, acs, reduceCtorEq, V, O, Z, ad, ab, aa]; (repeat refine an ?_); (try refine .inl ?_); apply k0; clear k0; simp only [zP, O])
 refine ag ?_
 apply k3; clear k3; refine kp [0, 1, 2, 9] ?_
 refine cd (fun hc4 => ?_) (fun hc4 => ?_)
 ·(try simp only [zB, reduceCtorEq] at hc4)
  refine af fun _ k5 => ?_
  refine ah hP hN rfl ?_
  (refine ae rfl fun _ k0 => ?_; simp only [zO, zT, acs, reduceCtorEq, V, O, Z, ad, ab, aa]; (repeat refine an ?_); (try refine .inl ?_); apply k0; clear k0; simp only [zP, O])
  refine ag ?_
  apply k5; clear k5; refine kp [0, 1, 2, 9] ?_
  refine ax ?_
  refine ⟨nr, _, rfl, ?_⟩; simp only [zF, zP, V, O]
  refine VLE.of_eq ?_
  refine congrArg (fun n => AV.one (AC.int IntKind.i64 n)) ?_
  symm
  first
  | exact fX (by omega)
  | exact eF (by omega) (by omega)
  | exact fZ (by omega) (by omega) (k := k) (by omega) hq hbad
  | exact fW (by omega) (by omega) (k := k) (by omega) hq hgood hin
  | exact dK (by omega) (by omega) fun q hq2 => hq q (by omega)
 (try simp only [zB, reduceCtorEq] at hc4)
 refine ay ?_
 apply k2; clear k2; refine kp [0, 1, 2, 9] ?_
 refine af fun _ k6 => ?_
 refine af fun _ k7 => ?_
 refine ah hP hN rfl ?_
 iterate 4 (refine ae rfl fun _ k0 => ?_; simp only [zO, zT, acs, reduceCtorEq, V, O, Z, ad, ab, aa]; (repeat refine an ?_); (try refine .inl ?_); apply k0; clear k0; simp only [zP, O])
 refine ag ?_
 apply k7; clear k7; refine kp [0, 1, 2, 9, 13] ?_
 refine cd (fun hc8 => ?_) (fun hc8 => ?_)
 ·(try simp only [zB, reduceCtorEq] at hc8)
  refine af fun _ k9 => ?_
  refine ah hP hN rfl ?_
  (refine ae rfl fun _ k0 => ?_; simp only [zO, zT, acs, reduceCtorEq, V, O, Z, ad, ab, aa]; (repeat refine an ?_); (try refine .inl ?_); apply k0; clear k0; simp only [zP, O])
  refine ag ?_
  apply k9; clear k9; refine kp [0, 1, 2, 9, 13] ?_
  refine ax ?_
  refine ⟨nr, _, rfl, ?_⟩; simp only [zF, zP, V, O]
  refine VLE.of_eq ?_
  refine congrArg (fun n => AV.one (AC.int IntKind.i64 n)) ?_
  symm
  first
  | exact fX (by omega)
  | exact eF (by omega) (by omega)
  | exact fZ (by omega) (by omega) (k := k) (by omega) hq hbad
  | exact fW (by omega) (by omega) (k := k) (by omega) hq hgood hin
  | exact dK (by omega) (by omega) fun q hq2 => hq q (by omega)
 (try simp only [zB, reduceCtorEq] at hc8)
 refine ay ?_
 apply k6; clear k6; refine kp [0, 1, 2, 9, 13] ?_
 refine af fun _ k10 => ?_
 refine af fun _ k11 => ?_
 refine ah hP hN rfl ?_
 (refine ae rfl fun _ k0 => ?_; simp only [zO, zT, acs, reduceCtorEq, V, O, Z, ad, ab, aa]; (repeat refine an ?_); (try refine .inl ?_); apply k0; clear k0; simp only [zP, O])
 refine ag ?_
 apply k11; clear k11; refine kp [0, 1, 2, 3, 9, 13] ?_
 refine aE ?_
 refine bn (fun n12 s12 => ∃ (k : Nat), (k ≤ xs.length) ∧ (∀ q, q < k → nmE xs q = 0) ∧ n12 = xs.length - k ∧ s12 = { env := [(1, .one (.ptr 0 0 0 0)), (2, .one (.int .i64 0)), (3, .one (.int .i64 (k : Int)))], L := [.vars 24 [.list .str xs]] }) ?_ ?_
 ·exact ⟨_, _, aB [1, 2, 3], 0, Nat.zero_le _, fun q hq => by omega, rfl, rfl⟩
 rintro n12 s12 ⟨k, hk, hq, rfl, rfl⟩
 refine af fun _ k13 => ?_
 refine af fun _ k14 => ?_
 refine ah hP hN rfl ?_
 iterate 5 (refine ae rfl fun _ k0 => ?_; simp only [zO, zT, acs, reduceCtorEq, V, O, Z, ad, ab, aa]; (repeat refine an ?_); (try refine .inl ?_); apply k0; clear k0; simp only [zP, O])
 refine ag ?_
 apply k14; clear k14; refine kp [1, 2, 3, 18] ?_
 refine cd (fun hc15 => ?_) (fun hc15 => ?_)
 ·(try simp only [zB, reduceCtorEq] at hc15)
  refine ay ?_
  apply k13; clear k13; refine kp [1, 2, 3, 18] ?_
  refine af fun _ k16 => ?_
  refine aE ?_
  refine af fun _ k17 => ?_
  refine af fun _ k18 => ?_
  refine ah hP hN rfl ?_
  iterate 5 (refine ae rfl fun _ k0 => ?_; simp only [zO, zT, acs, reduceCtorEq, V, O, Z, ad, ab, aa]; (repeat refine an ?_); (try refine .inl ?_); apply k0; clear k0; simp only [zP, O])
  refine ae rfl fun _ k0 => ?_
  refine aC (h := au (nM (xs.getD k []) (hn k (by omega)))) rfl rfl (by first | exact rfl | (simp only [ev, zP, V, O]; exact rfl)) (by simp only [zV, acs, reduceCtorEq, V, O, Z, ad, ab, aa]) ?_
  apply k0; clear k0; simp only [zP, O]
  (refine ae rfl fun _ k0 => ?_; simp only [zO, zT, acs, reduceCtorEq, V, O, Z, ad, ab, aa]; (repeat refine an ?_); (try refine .inl ?_); apply k0; clear k0; simp only [zP, O])
  refine ag ?_
  apply k18; clear k18; refine kp [1, 2, 3, 18, 27] ?_
  refine cd (fun hc19 => ?_) (fun hc19 => ?_)
  ·(try simp only [zB, reduceCtorEq] at hc19)
   have hbad : aY (xs.getD k []) = false := by simpa using hc19
   refine af fun _ k20 => ?_
   refine ah hP hN rfl ?_
   (refine ae rfl fun _ k0 => ?_; simp only [zO, zT, acs, reduceCtorEq, V, O, Z, ad, ab, aa]; (repeat refine an ?_); (try refine .inl ?_); apply k0; clear k0; simp only [zP, O])
   refine ag ?_
   apply k20; clear k20; refine kp [1, 2, 3, 18, 27] ?_
   refine ax ?_
   refine ⟨nr, _, rfl, ?_⟩; simp only [zF, zP, V, O]
   refine VLE.of_eq ?_
   refine congrArg (fun n => AV.one (AC.int IntKind.i64 n)) ?_
   symm
   first
   | exact fX (by omega)
   | exact eF (by omega) (by omega)
   | exact fZ (by omega) (by omega) (k := k) (by omega) hq hbad
   | exact fW (by omega) (by omega) (k := k) (by omega) hq hgood hin
   | exact dK (by omega) (by omega) fun q hq2 => hq q (by omega)
  (try simp only [zB, reduceCtorEq] at hc19)
  have hgood : aY (xs.getD k []) = true := by simpa using hc19
  refine ay ?_
  apply k17; clear k17; refine kp [1, 2, 3, 18, 27] ?_
  refine af fun _ k21 => ?_
  refine bZ hP hN Tryz.mixed rfl ?_
  iterate 6 (refine ae rfl fun _ k0 => ?_; simp only [zO, zT, acs, reduceCtorEq, V, O, Z, ad, ab, aa]; (repeat refine an ?_); (try refine .inl ?_); apply k0; clear k0; simp only [zP, O])
  refine ae rfl fun _ k0 => ?_
  refine aC (h := au (dy xs (xs.getD k []))) rfl rfl (by first | exact rfl | (simp only [ev, zP, V, O]; exact rfl)) (by simp only [zV, acs, reduceCtorEq, V, O, Z, ad, ab, aa]) ?_
  apply k0; clear k0; simp only [zP, O]
  iterate 5 (refine ae rfl fun _ k0 => ?_; simp only [zO, zT, acs, reduceCtorEq, V, O, Z, ad, ab, aa]; (repeat refine an ?_); (try refine .inl ?_); apply k0; clear k0; simp only [zP, O])
  refine ag ?_
  refine ⟨by kernel_rfl, ?_⟩
  apply k21; clear k21; refine kp [1, 2, 3, 4, 18, 27] ?_
  refine af fun _ k22 => ?_
  refine ah hP hN rfl ?_
  iterate 3 (refine ae rfl fun _ k0 => ?_; simp only [zO, zT, acs, reduceCtorEq, V, O, Z, ad, ab, aa]; (repeat refine an ?_); (try refine .inl ?_); apply k0; clear k0; simp only [zP, O])
  refine ag ?_
  apply k22; clear k22; refine kp [1, 2, 3, 4, 18, 27, 40] ?_
  refine cd (fun hc23 => ?_) (fun hc23 => ?_)
  ·(try simp only [zB, reduceCtorEq] at hc23)
   have hin : xs.getD k [] ∈ xs.take k := vC (by omega) (by have h9 := hc23; omega)
   refine af fun _ k24 => ?_
   refine ah hP hN rfl ?_
   (refine ae rfl fun _ k0 => ?_; simp only [zO, zT, acs, reduceCtorEq, V, O, Z, ad, ab, aa]; (repeat refine an ?_); (try refine .inl ?_); apply k0; clear k0; simp only [zP, O])
   refine ag ?_
   apply k24; clear k24; refine kp [1, 2, 3, 4, 18, 27, 40] ?_
   refine ax ?_
   refine ⟨nr, _, rfl, ?_⟩; simp only [zF, zP, V, O]
   refine VLE.of_eq ?_
   refine congrArg (fun n => AV.one (AC.int IntKind.i64 n)) ?_
   symm
   first
   | exact fX (by omega)
   | exact eF (by omega) (by omega)
   | exact fZ (by omega) (by omega) (k := k) (by omega) hq hbad
   | exact fW (by omega) (by omega) (k := k) (by omega) hq hgood hin
   | exact dK (by omega) (by omega) fun q hq2 => hq q (by omega)
  (try simp only [zB, reduceCtorEq] at hc23)
  have hnin : xs.getD k [] ∉ xs.take k := ul (by omega) (by have h9 := hc23; omega)
  refine ay ?_
  apply k16; clear k16; refine kp [1, 2, 3, 4, 18, 27, 40] ?_
  refine ah hP hN rfl ?_
  iterate 3 (refine ae rfl fun _ k0 => ?_; simp only [zO, zT, acs, reduceCtorEq, V, O, Z, ad, ab, aa]; (repeat refine an ?_); (try refine .inl ?_); apply k0; clear k0; simp only [zP, O])
  refine ag ?_
  refine ⟨_, _, ?_, aB [1, 2, 3], k + 1, by omega, fun q hq2 => ?_, rfl, rfl⟩
  · omega
  · by_cases e : q = k
    · rw [e]; exact jh hgood hnin
    · exact hq q (by omega)
 (try simp only [zB, reduceCtorEq] at hc15)
 refine bh ?_
 apply k10; clear k10; refine kp [1, 2, 3, 18] ?_
 refine af fun _ k25 => ?_
 refine ah hP hN rfl ?_
 (refine ae rfl fun _ k0 => ?_; simp only [zO, zT, acs, reduceCtorEq, V, O, Z, ad, ab, aa]; (repeat refine an ?_); (try refine .inl ?_); apply k0; clear k0; simp only [zP, O])
 refine ag ?_
 apply k25; clear k25; refine kp [1, 2, 3, 18] ?_
 refine ax ?_
 refine ⟨nr, _, rfl, ?_⟩; simp only [zF, zP, V, O]
 refine VLE.of_eq ?_
 refine congrArg (fun n => AV.one (AC.int IntKind.i64 n)) ?_
 symm
 first
 | exact fX (by omega)
 | exact eF (by omega) (by omega)
 | exact fZ (by omega) (by omega) (k := k) (by omega) hq hbad
 | exact fW (by omega) (by omega) (k := k) (by omega) hq hgood hin
 | exact dK (by omega) (by omega) fun q hq2 => hq q (by omega)
set_option maxHeartbeats 1000000 in
theorem pW (L0 : List AO) (n k : Nat) (hn : n ≤ 1000000) (hk : k ≤ 1000000) : dI Tryz.prog L0 51 [.one (.int .i64 (n : Int)), .one (.int .i64 (k : Int))] { av := .agg [.int .i64 (k : Int), .int .i64 0, .rwc (L0.length + 2) (min n 129), .rwc (L0.length + 3) (min n 129)], new := eI 27 45 3 L0.length k (min n 129) (cI (min n 129) k) (cI (min n 129) k), fp := List.range L0.length } := by
 refine dQ _ _ Tryz.func51 rfl (by kernel_rfl) (Nat.le_of_ble_eq_true rfl) (by intro k hk; exact List.mem_range.2 hk) (fun C hP hN hB => ?_)
 replace hB : C.bL.length = L0.length := by rw [hB]; skip
 replace hN : C.N = 45 := hN
 simp only [aX, O]
 refine af fun _ k1 => ?_
 refine ah hP hN rfl ?_
 (refine ae rfl fun _ k0 => ?_; simp only [zO, zT, acs, reduceCtorEq, V, O, Z, ad, ab, aa]; (repeat refine an ?_); (try refine .inl ?_); apply k0; clear k0; simp only [zP, O, List.append_assoc, am, ar])
 refine ag ?_
 apply k1; clear k1; refine kp [0, 1, 4] ?_
 refine af fun _ k2 => ?_
 refine ah hP hN rfl ?_
 iterate 4 (refine ae rfl fun _ k0 => ?_; simp only [zO, zT, acs, reduceCtorEq, V, O, Z, ad, ab, aa, xy, vz, aq, ak, aw, List.append_assoc, am, ar]; (repeat refine an ?_); (try refine .inl ?_); apply k0; clear k0; simp only [zP, O, rD, List.append_assoc, am, ar, aq, ak, aw, Nat.zero_add, O])
 refine ag ?_
 apply k2; clear k2; refine kp [0, 1, 4, 5] ?_
 refine af fun _ k3 => ?_
 refine af fun _ k4 => ?_
 refine ah hP hN rfl ?_
 (refine ae rfl fun _ k0 => ?_; simp only [zO, zT, acs, reduceCtorEq, V, O, Z, ad, ab, aa]; (repeat refine an ?_); (try refine .inl ?_); apply k0; clear k0; simp only [zP, O])
 refine ag ?_
 apply k4; clear k4; refine kp [0, 1, 4, 5, 6] ?_
 refine aE ?_
 refine iw (L0.length + 1) 2 1 45 (by decide) vz rfl ?_
 simp only [rD, aq, ak, aw, zS, Nat.zero_add, O, List.append_assoc, am, ar]
 refine iw (L0.length + 1) 3 1 45 (by decide) vz rfl ?_
 simp only [rD, aq, ak, aw, zS, Nat.zero_add, O, List.append_assoc, am, ar]
 refine bn (fun n5 s5 => ∃ (s : Nat), (s ≤ min n 129) ∧ n5 = min n 129 - s ∧ s5 = { env := [(0, .one (.int .i64 (n : Int))), (1, .one (.int .i64 (k : Int))), (4, .one (.ptr L0.length 0 0 0)), (5, .one (.ptr (L0.length + 1) 0 0 0)), (6, .one (.int .i64 (s : Int)))], L := bP L0 27 45 3 k s [.int .i64 0, .int .i64 0, .nils, .nils] [.int .i64 (k : Int), .int .i64 0, .rwc (L0.length + 2) s, .rwc (L0.length + 3) s] (.rowc 45 1 s (cP (L0.length + 4) k s)) (.rowc 45 1 s (cP (L0.length + 5) k s)) [] }) ?_ ?_
 ·exact ⟨_, _, aB [0, 1, 4, 5, 6], 0, Nat.zero_le _, rfl, rfl⟩
 rintro n5 s5 ⟨s, hs, rfl, rfl⟩
 refine af fun _ k6 => ?_
 refine af fun _ k7 => ?_
 refine ah hP hN rfl ?_
 iterate 4 (refine ae rfl fun _ k0 => ?_; simp only [zO, zT, acs, reduceCtorEq, V, O, Z, ad, ab, aa]; (repeat refine an ?_); (try refine .inl ?_); apply k0; clear k0; simp only [zP, O])
 refine' aA (want := true) 2 rfl (m := 15) (by simp only [zP, V, O]; exact rfl) (by kernel_rfl) rfl rfl rfl rfl rfl (fun hg8 => ?a8) ?b8 ?c8
 case a8 =>
  have hq8 := hg8; (try simp only [zB, reduceCtorEq] at hg8); simp only [zE]
  iterate 2 (refine aQ rfl fun _ k0 => ?_; simp only [zO, zT, acs, reduceCtorEq, V, O, Z, ad, ab, aa]; (repeat refine an ?_); (try refine .inl ?_); apply k0; clear k0; simp only [zP, O])
  (refine ae rfl fun _ k0 => ?_; simp only [zO, zT, acs, reduceCtorEq, V, O, Z, ad, ab, aa]; (repeat refine an ?_); (try refine .inl ?_); apply k0; clear k0; simp only [zP, O])
  refine ag ?_
  refine ⟨by simp only [zP, V, O]; exact rfl, rfl, ?_, rfl⟩; (repeat refine az rfl ?_); exact aP (by exact rfl) hq8
 case b8 => exact bf
 simp only [aK, aF]
 refine ag ?_
 apply k7; clear k7; refine kp [0, 1, 4, 5, 6, 18] ?_
 refine cd (fun hc9 => ?_) (fun hc9 => ?_)
 ·(try simp only [zB, reduceCtorEq] at hc9)
  refine ay ?_
  apply k6; clear k6; refine kp [0, 1, 4, 5, 6, 18] ?_
  refine af fun _ k10 => ?_
  refine aE ?_
  refine af fun _ k11 => ?_
  refine ah hP hN rfl ?_
  iterate 2 (refine ae rfl fun _ k0 => ?_; simp only [zO, zT, acs, reduceCtorEq, V, O, Z, ad, ab, aa]; (repeat refine an ?_); (try refine .inl ?_); apply k0; clear k0; simp only [zP, O])
  refine ag ?_
  apply k11; clear k11; refine kp [0, 1, 4, 5, 6, 7, 8, 18] ?_
  refine af fun _ k12 => ?_
  refine af fun _ k13 => ?_
  refine ah hP hN rfl ?_
  (refine ae rfl fun _ k0 => ?_; simp only [zO, zT, acs, reduceCtorEq, V, O, Z, ad, ab, aa]; (repeat refine an ?_); (try refine .inl ?_); apply k0; clear k0; simp only [zP, O])
  refine ag ?_
  apply k13; clear k13; refine kp [0, 1, 4, 5, 6, 7, 8, 9, 18] ?_
  refine aE ?_
  refine jR 7 (.int .i64) 3 (by decide) rfl ?_
  simp only [fU, dp, ar, aw, Nat.add_zero]
  refine jR 8 (.int .i64) 3 (by decide) rfl ?_
  simp only [fU, dp, am, ar, ak, aw, Nat.zero_add]
  refine bn (fun n14 s14 => ∃ (j : Nat), (j ≤ k) ∧ n14 = k - j ∧ s14 = { env := [(0, .one (.int .i64 (n : Int))), (1, .one (.int .i64 (k : Int))), (4, .one (.ptr L0.length 0 0 0)), (5, .one (.ptr (L0.length + 1) 0 0 0)), (6, .one (.int .i64 (s : Int))), (7, .one (.row (L0.length + 4 + 4 * s) j)), (8, .one (.row (L0.length + 4 + 4 * s + 1) j)), (9, .one (.int .i64 (j : Int))), (18, .one (.bool (decide ((s : Int) < n) && decide ((s : Int) < 129))))], L := bP L0 27 45 3 k s [.int .i64 0, .int .i64 0, .nils, .nils] [.int .i64 (k : Int), .int .i64 0, .rwc (L0.length + 2) s, .rwc (L0.length + 3) s] (.rowc 45 1 s (cP (L0.length + 4) k s)) (.rowc 45 1 s (cP (L0.length + 5) k s)) [.row (.int .i64) 3 j (List.replicate j (-1)), .row (.int .i64) 3 j (List.replicate j (-1))] }) ?_ ?_
  ·exact ⟨_, _, aB [0, 1, 4, 5, 6, 7, 8, 9, 18], 0, Nat.zero_le _, rfl, rfl⟩
  rintro n14 s14 ⟨j, hj, rfl, rfl⟩
  refine af fun _ k15 => ?_
  refine af fun _ k16 => ?_
  refine ah hP hN rfl ?_
  iterate 3 (refine ae rfl fun _ k0 => ?_; simp only [zO, zT, acs, reduceCtorEq, V, O, Z, ad, ab, aa]; (repeat refine an ?_); (try refine .inl ?_); apply k0; clear k0; simp only [zP, O])
  refine ag ?_
  apply k16; clear k16; refine kp [0, 1, 4, 5, 6, 7, 8, 9, 18, 23] ?_
  refine cd (fun hc17 => ?_) (fun hc17 => ?_)
  ·(try simp only [zB, reduceCtorEq] at hc17)
   refine ay ?_
   apply k15; clear k15; refine kp [0, 1, 4, 5, 6, 7, 8, 9, 18, 23] ?_
   refine af fun _ k18 => ?_
   refine aE ?_
   refine af fun _ k19 => ?_
   have hrr : List.replicate j (-1 : Int) ++ [-1] = List.replicate (j + 1) (-1) := by rw [show [(-1 : Int)] = List.replicate 1 (-1) from rfl, List.replicate_append_replicate]
   refine ah hP hN rfl ?_
   iterate 4 (refine ae rfl fun _ k0 => ?_; simp only [zO, zT, acs, reduceCtorEq, V, O, Z, ad, ab, aa, qR, aL]; (repeat refine an ?_); (try refine .inl ?_); apply k0; clear k0; simp only [zP, O, wY, hrr])
   refine ag ?_
   apply k19; clear k19; refine kp [0, 1, 4, 5, 6, 7, 8, 9, 18, 23] ?_
   refine ah hP hN rfl ?_
   iterate 4 (refine ae rfl fun _ k0 => ?_; simp only [zO, zT, acs, reduceCtorEq, V, O, Z, ad, ab, aa, r8, aL]; (repeat refine an ?_); (try refine .inl ?_); apply k0; clear k0; simp only [zP, O, wT, hrr])
   refine ag ?_
   apply k18; clear k18; refine kp [0, 1, 4, 5, 6, 7, 8, 9, 18, 23] ?_
   refine ah hP hN rfl ?_
   iterate 3 (refine ae rfl fun _ k0 => ?_; simp only [zO, zT, acs, reduceCtorEq, V, O, Z, ad, ab, aa]; (repeat refine an ?_); (try refine .inl ?_); apply k0; clear k0; simp only [zP, O])
   refine ag ?_
   refine ⟨_, _, ?_, aB [0, 1, 4, 5, 6, 7, 8, 9, 18], j + 1, by omega, rfl, rfl⟩
   omega
  (try simp only [zB, reduceCtorEq] at hc17)
  refine bh ?_
  apply k12; clear k12; refine kp [0, 1, 4, 5, 6, 7, 8, 9, 18, 23] ?_
  refine af fun _ k20 => ?_
  obtain rfl : j = k := by omega
  refine ah hP hN rfl ?_
  iterate 3 (refine ae rfl fun _ k0 => ?_; simp only [zO, zT, acs, reduceCtorEq, V, O, Z, ad, ab, aa, M_1, M_2, qR, sr, dp, da, ak, aw, Nat.zero_add, O]; (repeat refine an ?_); (try refine .inl ?_); apply k0; clear k0; simp only [zP, O, fU, sD, lO, dp, m9, am, ar, ak, aw, Nat.zero_add, O])
  (refine ae rfl fun _ k0 => ?_; simp only [zO, zT, acs, reduceCtorEq, V, O, Z, ad, ab, aa, M_1, M_2, qR, sr, dp, da, ak, aw, Nat.zero_add, O]; (repeat refine an ?_); refine k0 _ ?_; clear k0; simp only [zP, O, fU, sD, lO, dp, m9, am, ar, ak, aw, Nat.zero_add, O])
  (refine ae rfl fun _ k0 => ?_; simp only [zO, zT, acs, reduceCtorEq, V, O, Z, ad, ab, aa, M_1, M_2, qR, sr, dp, da, ak, aw, Nat.zero_add, O]; refine ⟨by omega, ⟨s, 1, ⟨rfl, rfl, by decide⟩, by omega, by omega⟩, k0 _ ?_⟩; clear k0; simp only [zP, O, fU, sD, lO, dp, m9, am, ar, ak, aw, Nat.zero_add, O])
  iterate 2 (refine ae rfl fun _ k0 => ?_; simp only [zO, zT, acs, reduceCtorEq, V, O, Z, ad, ab, aa, M_1, M_2, qR, sr, dp, da, ak, aw, Nat.zero_add, O]; (repeat refine an ?_); (try refine .inl ?_); apply k0; clear k0; simp only [zP, O, fU, sD, lO, dp, m9, am, ar, ak, aw, Nat.zero_add, O])
  refine ag ?_
  apply k20; clear k20; refine kp [0, 1, 4, 5, 6, 7, 8, 9, 18, 23] ?_
  refine ah hP hN rfl ?_
  iterate 3 (refine ae rfl fun _ k0 => ?_; simp only [zO, zT, acs, reduceCtorEq, V, O, Z, ad, ab, aa, M_1, M_3, r8, sN, dp, da, ak, aw, Nat.zero_add, O]; (repeat refine an ?_); (try refine .inl ?_); apply k0; clear k0; simp only [zP, O, fU, sq, lO, dp, me, am, ar, ak, aw, Nat.zero_add, O])
  (refine ae rfl fun _ k0 => ?_; simp only [zO, zT, acs, reduceCtorEq, V, O, Z, ad, ab, aa, M_1, M_3, r8, sN, dp, da, ak, aw, Nat.zero_add, O]; (repeat refine an ?_); refine k0 _ ?_; clear k0; simp only [zP, O, fU, sq, lO, dp, me, am, ar, ak, aw, Nat.zero_add, O])
  (refine ae rfl fun _ k0 => ?_; simp only [zO, zT, acs, reduceCtorEq, V, O, Z, ad, ab, aa, M_1, M_3, r8, sN, dp, da, ak, aw, Nat.zero_add, O]; refine ⟨by omega, ⟨s, 1, ⟨rfl, rfl, by decide⟩, by omega, by omega⟩, k0 _ ?_⟩; clear k0; simp only [zP, O, fU, sq, lO, dp, me, am, ar, ak, aw, Nat.zero_add, O])
  iterate 2 (refine ae rfl fun _ k0 => ?_; simp only [zO, zT, acs, reduceCtorEq, V, O, Z, ad, ab, aa, M_1, M_3, r8, sN, dp, da, ak, aw, Nat.zero_add, O]; (repeat refine an ?_); (try refine .inl ?_); apply k0; clear k0; simp only [zP, O, fU, sq, lO, dp, me, am, ar, ak, aw, Nat.zero_add, O])
  refine ag ?_
  apply k10; clear k10; refine kp [0, 1, 4, 5, 6, 7, 8, 9, 18, 23] ?_
  refine ah hP hN rfl ?_
  iterate 3 (refine ae rfl fun _ k0 => ?_; simp only [zO, zT, acs, reduceCtorEq, V, O, Z, ad, ab, aa]; (repeat refine an ?_); (try refine .inl ?_); apply k0; clear k0; simp only [zP, O])
  refine ag ?_
  refine ⟨_, _, ?_, aB [0, 1, 4, 5, 6], s + 1, by omega, rfl, ?_⟩
  · omega
  · rw [← wh]; rfl
 (try simp only [zB, reduceCtorEq] at hc9)
 refine bh ?_
 apply k3; clear k3; refine kp [0, 1, 4, 5, 6, 18] ?_
 refine af fun _ k21 => ?_
 obtain rfl : s = min n 129 := by omega
 refine ah hP hN rfl ?_
 iterate 2 (refine ae rfl fun _ k0 => ?_; simp only [zO, zT, acs, reduceCtorEq, V, O, Z, ad, ab, aa, M_1, M_0]; (repeat refine an ?_); (try refine .inl ?_); apply k0; clear k0; simp only [zP, O, xf])
 refine ag ?_
 apply k21; clear k21; refine kp [0, 1, 4, 5, 6, 18] ?_
 refine ax ?_
 refine ⟨by first | exact .inl rfl | exact .inr rfl, .agg [.int .i64 (k : Int), .int .i64 0, .rwc (L0.length + 2) (min n 129), .rwc (L0.length + 3) (min n 129)], ue Tryz.td27 rfl M_0 rfl, ?_⟩; simp only [zP, V, O]
 rw [xb]; all_goals (first | exact ⟨rfl, rfl⟩ | rfl)
theorem uX (l : List Bs) (hn : ∀ k, k < l.length → (l.getD k []).length ≤ 1048576) : bH Tryz.prog 52 [.one (.list .str l)] (.one (.int .i64 (dw l))) := by
 refine aR Tryz.func52 rfl (by kernel_rfl) (Nat.le_of_ble_eq_true rfl) rfl fun C hP hN hB => ?_
 replace hN : C.N = 39 := hN
 simp only [aX, O]
 refine af fun _ k1 => ?_
 refine ah hP hN rfl ?_
 (refine ae rfl fun _ k0 => ?_; simp only [zO, zT, acs, reduceCtorEq, V, O, Z, ad, ab, aa]; (repeat refine an ?_); (try refine .inl ?_); apply k0; clear k0; simp only [zP, O])
 refine ag ?_
 apply k1; clear k1; refine kp [0, 2] ?_
 refine af fun _ k2 => ?_
 refine aE ?_
 refine af fun _ k3 => ?_
 refine ah hP hN rfl ?_
 iterate 4 (refine ae rfl fun _ k0 => ?_; simp only [zO, zT, acs, reduceCtorEq, V, O, Z, ad, ab, aa]; (repeat refine an ?_); (try refine .inl ?_); apply k0; clear k0; simp only [zP, O])
 refine ag ?_
 apply k3; clear k3; refine kp [0, 2, 6] ?_
 refine cd (fun hc4 => ?_) (fun hc4 => ?_)
 ·(try simp only [zB, reduceCtorEq] at hc4)
  refine af fun _ k5 => ?_
  refine ah hP hN rfl ?_
  (refine ae rfl fun _ k0 => ?_; simp only [zO, zT, acs, reduceCtorEq, V, O, Z, ad, ab, aa]; (repeat refine an ?_); (try refine .inl ?_); apply k0; clear k0; simp only [zP, O])
  refine ag ?_
  apply k5; clear k5; refine kp [0, 2, 6] ?_
  refine ax ?_
  refine ⟨nr, _, rfl, ?_⟩; simp only [zF, zP, V, O]
  refine VLE.of_eq ?_
  refine congrArg (fun n => AV.one (AC.int IntKind.i64 n)) ?_
  symm
  first
  | exact fS (by omega)
  | exact du (by omega) (by omega)
  | exact fY (by omega) (by omega) (by omega) hq hbad
  | exact fP (by omega) (by omega) (by omega) hq hgood hin
  | exact ec (by omega) (by omega) fun q hq2 => hq q (by omega)
 (try simp only [zB, reduceCtorEq] at hc4)
 refine af fun _ k6 => ?_
 refine ah hP hN rfl ?_
 iterate 4 (refine ae rfl fun _ k0 => ?_; simp only [zO, zT, acs, reduceCtorEq, V, O, Z, ad, ab, aa]; (repeat refine an ?_); (try refine .inl ?_); apply k0; clear k0; simp only [zP, O])
 refine ag ?_
 apply k6; clear k6; refine kp [0, 2, 6, 10] ?_
 refine cd (fun hc7 => ?_) (fun hc7 => ?_)
 ·(try simp only [zB, reduceCtorEq] at hc7)
  refine af fun _ k8 => ?_
  refine ah hP hN rfl ?_
  (refine ae rfl fun _ k0 => ?_; simp only [zO, zT, acs, reduceCtorEq, V, O, Z, ad, ab, aa]; (repeat refine an ?_); (try refine .inl ?_); apply k0; clear k0; simp only [zP, O])
  refine ag ?_
  apply k8; clear k8; refine kp [0, 2, 6, 10] ?_
  refine ax ?_
  refine ⟨nr, _, rfl, ?_⟩; simp only [zF, zP, V, O]
  refine VLE.of_eq ?_
  refine congrArg (fun n => AV.one (AC.int IntKind.i64 n)) ?_
  symm
  first
  | exact fS (by omega)
  | exact du (by omega) (by omega)
  | exact fY (by omega) (by omega) (by omega) hq hbad
  | exact fP (by omega) (by omega) (by omega) hq hgood hin
  | exact ec (by omega) (by omega) fun q hq2 => hq q (by omega)
 (try simp only [zB, reduceCtorEq] at hc7)
 refine ay ?_
 apply k2; clear k2; refine kp [0, 2, 6, 10] ?_
 refine af fun _ k9 => ?_
 refine af fun _ k10 => ?_
 refine ah hP hN rfl ?_
 (refine ae rfl fun _ k0 => ?_; simp only [zO, zT, acs, reduceCtorEq, V, O, Z, ad, ab, aa]; (repeat refine an ?_); (try refine .inl ?_); apply k0; clear k0; simp only [zP, O])
 refine ag ?_
 apply k10; clear k10; refine kp [0, 2, 3, 6, 10] ?_
 refine aE ?_
 refine bn (fun n11 s11 => ∃ (k : Nat), (k ≤ l.length) ∧ (∀ q, q < k → nmE l q = 0) ∧ n11 = l.length - k ∧ s11 = { env := [(0, .one (.list .str l)), (2, .one (.int .i64 0)), (3, .one (.int .i64 (k : Int)))], L := [] }) ?_ ?_
 ·exact ⟨_, _, aB [0, 2, 3], 0, Nat.zero_le _, fun q hq => by omega, rfl, rfl⟩
 rintro n11 s11 ⟨k, hk, hq, rfl, rfl⟩
 refine af fun _ k12 => ?_
 refine af fun _ k13 => ?_
 refine ah hP hN rfl ?_
 iterate 4 (refine ae rfl fun _ k0 => ?_; simp only [zO, zT, acs, reduceCtorEq, V, O, Z, ad, ab, aa]; (repeat refine an ?_); (try refine .inl ?_); apply k0; clear k0; simp only [zP, O])
 refine ag ?_
 apply k13; clear k13; refine kp [0, 2, 3, 17] ?_
 refine cd (fun hc14 => ?_) (fun hc14 => ?_)
 ·(try simp only [zB, reduceCtorEq] at hc14)
  refine ay ?_
  apply k12; clear k12; refine kp [0, 2, 3, 17] ?_
  refine af fun _ k15 => ?_
  refine aE ?_
  refine af fun _ k16 => ?_
  refine af fun _ k17 => ?_
  refine ah hP hN rfl ?_
  iterate 4 (refine ae rfl fun _ k0 => ?_; simp only [zO, zT, acs, reduceCtorEq, V, O, Z, ad, ab, aa]; (repeat refine an ?_); (try refine .inl ?_); apply k0; clear k0; simp only [zP, O])
  refine ae rfl fun _ k0 => ?_
  refine aC (h := au (nM (l.getD k []) (hn k (by omega)))) rfl rfl (by first | exact rfl | (simp only [ev, zP, V, O]; exact rfl)) (by simp only [zV, acs, reduceCtorEq, V, O, Z, ad, ab, aa]) ?_
  apply k0; clear k0; simp only [zP, O]
  (refine ae rfl fun _ k0 => ?_; simp only [zO, zT, acs, reduceCtorEq, V, O, Z, ad, ab, aa]; (repeat refine an ?_); (try refine .inl ?_); apply k0; clear k0; simp only [zP, O])
  refine ag ?_
  apply k17; clear k17; refine kp [0, 2, 3, 17, 25] ?_
  refine cd (fun hc18 => ?_) (fun hc18 => ?_)
  ·(try simp only [zB, reduceCtorEq] at hc18)
   have hbad : aY (l.getD k []) = false := by simpa using hc18
   refine af fun _ k19 => ?_
   refine ah hP hN rfl ?_
   (refine ae rfl fun _ k0 => ?_; simp only [zO, zT, acs, reduceCtorEq, V, O, Z, ad, ab, aa]; (repeat refine an ?_); (try refine .inl ?_); apply k0; clear k0; simp only [zP, O])
   refine ag ?_
   apply k19; clear k19; refine kp [0, 2, 3, 17, 25] ?_
   refine ax ?_
   refine ⟨nr, _, rfl, ?_⟩; simp only [zF, zP, V, O]
   refine VLE.of_eq ?_
   refine congrArg (fun n => AV.one (AC.int IntKind.i64 n)) ?_
   symm
   first
   | exact fS (by omega)
   | exact du (by omega) (by omega)
   | exact fY (by omega) (by omega) (by omega) hq hbad
   | exact fP (by omega) (by omega) (by omega) hq hgood hin
   | exact ec (by omega) (by omega) fun q hq2 => hq q (by omega)
  (try simp only [zB, reduceCtorEq] at hc18)
  have hgood : aY (l.getD k []) = true := by simpa using hc18
  refine ay ?_
  apply k16; clear k16; refine kp [0, 2, 3, 17, 25] ?_
  refine af fun _ k20 => ?_
  refine ah hP hN rfl ?_
  iterate 6 (refine ae rfl fun _ k0 => ?_; simp only [zO, zT, acs, reduceCtorEq, V, O, Z, ad, ab, aa]; (repeat refine an ?_); (try refine .inl ?_); apply k0; clear k0; simp only [zP, O])
  refine ae rfl fun _ k0 => ?_
  refine aC (h := au (dy l (l.getD k []))) rfl rfl (by first | exact rfl | (simp only [ev, zP, V, O]; exact rfl)) (by simp only [zV, acs, reduceCtorEq, V, O, Z, ad, ab, aa]) ?_
  apply k0; clear k0; simp only [zP, O]
  iterate 5 (refine ae rfl fun _ k0 => ?_; simp only [zO, zT, acs, reduceCtorEq, V, O, Z, ad, ab, aa]; (repeat refine an ?_); (try refine .inl ?_); apply k0; clear k0; simp only [zP, O])
  refine ag ?_
  apply k20; clear k20; refine kp [0, 2, 3, 4, 17, 25] ?_
  refine af fun _ k21 => ?_
  refine ah hP hN rfl ?_
  iterate 3 (refine ae rfl fun _ k0 => ?_; simp only [zO, zT, acs, reduceCtorEq, V, O, Z, ad, ab, aa]; (repeat refine an ?_); (try refine .inl ?_); apply k0; clear k0; simp only [zP, O])
  refine ag ?_
  apply k21; clear k21; refine kp [0, 2, 3, 4, 17, 25, 38] ?_
  refine cd (fun hc22 => ?_) (fun hc22 => ?_)
  ·(try simp only [zB, reduceCtorEq] at hc22)
   have hin : l.getD k [] ∈ l.take k := vC (by omega) (by have h9 := hc22; omega)
   refine af fun _ k23 => ?_
   refine ah hP hN rfl ?_
   (refine ae rfl fun _ k0 => ?_; simp only [zO, zT, acs, reduceCtorEq, V, O, Z, ad, ab, aa]; (repeat refine an ?_); (try refine .inl ?_); apply k0; clear k0; simp only [zP, O])
   refine ag ?_
   apply k23; clear k23; refine kp [0, 2, 3, 4, 17, 25, 38] ?_
   refine ax ?_
   refine ⟨nr, _, rfl, ?_⟩; simp only [zF, zP, V, O]
   refine VLE.of_eq ?_
   refine congrArg (fun n => AV.one (AC.int IntKind.i64 n)) ?_
   symm
   first
   | exact fS (by omega)
   | exact du (by omega) (by omega)
   | exact fY (by omega) (by omega) (by omega) hq hbad
   | exact fP (by omega) (by omega) (by omega) hq hgood hin
   | exact ec (by omega) (by omega) fun q hq2 => hq q (by omega)
  (try simp only [zB, reduceCtorEq] at hc22)
  have hnin : l.getD k [] ∉ l.take k := ul (by omega) (by have h9 := hc22; omega)
  refine ay ?_
  apply k15; clear k15; refine kp [0, 2, 3, 4, 17, 25, 38] ?_
  refine ah hP hN rfl ?_
  iterate 3 (refine ae rfl fun _ k0 => ?_; simp only [zO, zT, acs, reduceCtorEq, V, O, Z, ad, ab, aa]; (repeat refine an ?_); (try refine .inl ?_); apply k0; clear k0; simp only [zP, O])
  refine ag ?_
  refine ⟨_, _, ?_, aB [0, 2, 3], k + 1, by omega, fun q hq2 => ?_, rfl, rfl⟩
  · omega
  · by_cases e : q = k
    · rw [e]; exact jh hgood hnin
    · exact hq q (by omega)
 (try simp only [zB, reduceCtorEq] at hc14)
 refine bh ?_
 apply k9; clear k9; refine kp [0, 2, 3, 17] ?_
 refine af fun _ k24 => ?_
 refine ah hP hN rfl ?_
 (refine ae rfl fun _ k0 => ?_; simp only [zO, zT, acs, reduceCtorEq, V, O, Z, ad, ab, aa]; (repeat refine an ?_); (try refine .inl ?_); apply k0; clear k0; simp only [zP, O])
 refine ag ?_
 apply k24; clear k24; refine kp [0, 2, 3, 17] ?_
 refine ax ?_
 refine ⟨nr, _, rfl, ?_⟩; simp only [zF, zP, V, O]
 refine VLE.of_eq ?_
 refine congrArg (fun n => AV.one (AC.int IntKind.i64 n)) ?_
 symm
 first
 | exact fS (by omega)
 | exact du (by omega) (by omega)
 | exact fY (by omega) (by omega) (by omega) hq hbad
 | exact fP (by omega) (by omega) (by omega) hq hgood hin
 | exact ec (by omega) (by omega) fun q hq2 => hq q (by omega)
set_option maxHeartbeats 1000000 in
theorem rO (r : RS) (a b : AC) (U : List AO) (w : List Bs) (hl : w.length ≤ 1000000) (h0 : 0 < w.length) (hr : r.rd < 5) (hi : r.rd = 3 → r.ins.length ≤ 1000000) (hn : ∀ k, k < w.length → (w.getD k []).length ≤ 1048576) : dI Tryz.prog (.vars 29 [.str [], .nils, .nils, .int .i64 0, .int .i64 0, .nils, .nils] :: .vars 67 [.int .i64 (r.rd : Int), .list .str r.sts, .str r.nm, .list .str r.ins, .list .str r.outs, .int .i64 r.inp, .int .i64 r.st, a, b] :: U) 32 [.one (.ptr 1 0 0 0), .one (.list .str w)] { av := .one (.int .i64 (aU r w).2), upd := eM (U.length + 2) (hdQ (.vars 29 [.str [], .nils, .nils, .int .i64 0, .int .i64 0, .nils, .nils]) 67 27 45 3 r a b U w), new := (hdQ (.vars 29 [.str [], .nils, .nils, .int .i64 0, .int .i64 0, .nils, .nils]) 67 27 45 3 r a b U w).drop (U.length + 2), fp := List.range (U.length + 2) } := by
 refine dQ _ _ Tryz.func32 rfl (by kernel_rfl) (Nat.le_of_ble_eq_true rfl) (by intro k hk; exact List.mem_range.2 hk) (fun C hP hN hB => ?_)
 replace hB : C.bL.length = U.length + 2 := by rw [hB]; rfl
 replace hN : C.N = 143 := hN
 simp only [aX, O]
 refine af fun _ k1 => ?_
 refine ah hP hN rfl ?_
 (refine ae rfl fun _ k0 => ?_; simp only [zO, zT, acs, reduceCtorEq, V, O, Z, ad, ab, aa, Int.toNat_one]; (repeat refine an ?_); (try refine .inl ?_); apply k0; clear k0; simp only [zP, O])
 refine ag ?_
 apply k1; clear k1; refine kp [0, 1, 4] ?_
 refine af fun _ k2 => ?_
 have hk4 : r.rd ≤ 4 := by omega
 have htk : [([109, 97, 99, 104, 105, 110, 101] : Bs), [105, 110, 112, 117, 116, 115], [111, 117, 116, 112, 117, 116, 115], [115, 116, 97, 116, 101, 115], [115, 116, 97, 114, 116]].getD r.rd [] = kwd r.rd := rfl
 have hd1 : ∀ k, k < (w.drop 1).length → ((w.drop 1).getD k []).length ≤ 1048576 := fun k hk => by
   rw [List.length_drop] at hk
   have e : (w.drop 1).getD k [] = w.getD (1 + k) [] := by simp [List.getD, Nat.add_comm]
   rw [e]; exact hn _ (by omega)
 have hw1 : (w.length : Int) - 1 = ((w.drop 1).length : Int) := by rw [List.length_drop]; omega
 refine ah hP hN rfl ?_
 iterate 8 (refine ae rfl fun _ k0 => ?_; simp only [zO, zT, acs, reduceCtorEq, V, O, Z, ad, ab, aa, Int.toNat_one, htk]; (repeat refine an ?_); (try refine .inl ?_); apply k0; clear k0; simp only [zP, O])
 refine ag ?_
 apply k2; clear k2; refine kp [0, 1, 4, 5] ?_
 refine af fun _ k3 => ?_
 refine ah hP hN rfl ?_
 iterate 6 (refine ae rfl fun _ k0 => ?_; simp only [zO, zT, acs, reduceCtorEq, V, O, Z, ad, ab, aa, Int.toNat_one]; (repeat refine an ?_); (try refine .inl ?_); apply k0; clear k0; simp only [zP, O])
 refine' aA (want := false) 5 rfl (m := 21) (by simp only [zP, V, O]; exact rfl) (by kernel_rfl) rfl rfl rfl rfl rfl (fun hg4 => ?a4) ?b4 ?c4
 case a4 =>
  have hq4 := hg4; (try simp only [zB, reduceCtorEq] at hg4); simp only [zE]
  iterate 5 (refine aQ rfl fun _ k0 => ?_; simp only [zO, zT, acs, reduceCtorEq, V, O, Z, ad, ab, aa, Int.toNat_one]; (repeat refine an ?_); (try refine .inl ?_); apply k0; clear k0; simp only [zP, O])
  (refine ae rfl fun _ k0 => ?_; simp only [zO, zT, acs, reduceCtorEq, V, O, Z, ad, ab, aa, Int.toNat_one]; (repeat refine an ?_); (try refine .inl ?_); apply k0; clear k0; simp only [zP, O])
  refine ag ?_
  refine ⟨by simp only [zP, V, O]; exact rfl, rfl, ?_, rfl⟩; (repeat refine az rfl ?_); exact aP (by exact rfl) hq4
 case b4 => exact bf
 simp only [aK, aF]
 (refine ae rfl fun _ k0 => ?_; simp only [zO, zT, acs, reduceCtorEq, V, O, Z, ad, ab, aa, Int.toNat_one]; (repeat refine an ?_); (try refine .inl ?_); apply k0; clear k0; simp only [zP, O])
 refine ag ?_
 apply k3; clear k3; refine kp [0, 1, 4, 5, 6] ?_
 refine af fun _ k5 => ?_
 refine af fun _ k6 => ?_
 refine ah hP hN rfl ?_
 iterate 4 (refine ae rfl fun _ k0 => ?_; simp only [zO, zT, acs, reduceCtorEq, V, O, Z, ad, ab, aa, Int.toNat_one]; (repeat refine an ?_); (try refine .inl ?_); apply k0; clear k0; simp only [zP, O])
 refine' aA (want := false) 5 rfl (m := 31) (by simp only [zP, V, O]; exact rfl) (by kernel_rfl) rfl rfl rfl rfl rfl (fun hg7 => ?a7) ?b7 ?c7
 case a7 =>
  have hq7 := hg7; (try simp only [zB, reduceCtorEq] at hg7); simp only [zE]
  iterate 5 (refine aQ rfl fun _ k0 => ?_; simp only [zO, zT, acs, reduceCtorEq, V, O, Z, ad, ab, aa, Int.toNat_one]; (repeat refine an ?_); (try refine .inl ?_); apply k0; clear k0; simp only [zP, O])
  (refine ae rfl fun _ k0 => ?_; simp only [zO, zT, acs, reduceCtorEq, V, O, Z, ad, ab, aa, Int.toNat_one]; (repeat refine an ?_); (try refine .inl ?_); apply k0; clear k0; simp only [zP, O])
  refine ag ?_
  refine ⟨by simp only [zP, V, O]; exact rfl, rfl, ?_, rfl⟩; (repeat refine az rfl ?_); exact aP (by exact rfl) hq7
 case b7 => exact bf
 simp only [aK, aF]
 (refine ae rfl fun _ k0 => ?_; simp only [zO, zT, acs, reduceCtorEq, V, O, Z, ad, ab, aa, Int.toNat_one]; (repeat refine an ?_); (try refine .inl ?_); apply k0; clear k0; simp only [zP, O])
 refine' aA (want := false) 6 rfl (m := 38) (by simp only [zP, V, O]; exact rfl) (by kernel_rfl) rfl rfl rfl rfl rfl (fun hg8 => ?a8) ?b8 ?c8
 case a8 =>
  have hq8 := hg8; (try simp only [zB, reduceCtorEq] at hg8); simp only [zE]
  iterate 2 (refine aQ rfl fun _ k0 => ?_; simp only [zO, zT, acs, reduceCtorEq, V, O, Z, ad, ab, aa, Int.toNat_one]; (repeat refine an ?_); (try refine .inl ?_); apply k0; clear k0; simp only [zP, O])
  refine' aA (want := true) 3 rfl (m := 40) (by simp only [zP, V, O]; exact rfl) (by kernel_rfl) rfl rfl rfl rfl rfl (fun hg9 => ?a9) ?b9 ?c9
  case a9 =>
   have hq9 := hg9; (try simp only [zB, reduceCtorEq] at hg9); simp only [zE]
   iterate 4 (refine aQ rfl fun _ k0 => ?_; simp only [zO, zT, acs, reduceCtorEq, V, O, Z, ad, ab, aa, Int.toNat_one]; (repeat refine an ?_); (try refine .inl ?_); apply k0; clear k0; simp only [zP, O])
   refine ag ?_
   refine ⟨by simp only [zP, V, O]; exact rfl, rfl, ?_, rfl⟩; (repeat refine az rfl ?_); exact aP (by exact rfl) hq9
  case b9 => exact bf
  simp only [aK, aF]
  (refine ae rfl fun _ k0 => ?_; simp only [zO, zT, acs, reduceCtorEq, V, O, Z, ad, ab, aa, Int.toNat_one]; (repeat refine an ?_); (try refine .inl ?_); apply k0; clear k0; simp only [zP, O])
  refine ag ?_
  refine ⟨by simp only [zP, V, O]; exact rfl, rfl, ?_, rfl⟩; (repeat refine az rfl ?_); exact aP (by exact rfl) hq8
 case b8 => exact bf
 simp only [aK, aF]
 refine ag ?_
 apply k6; clear k6; refine kp [0, 1, 4, 5, 6, 45] ?_
 refine cd (fun hc10 => ?_) (fun hc10 => ?_)
 ·(try simp only [zB, reduceCtorEq] at hc10)
  have hbd := by have h9 := hc10; exact (or_assoc.1 h9).resolve_left (by omega)
  refine af fun _ k11 => ?_
  refine ah hP hN rfl ?_
  (refine ae rfl fun _ k0 => ?_; simp only [zO, zT, acs, reduceCtorEq, V, O, Z, ad, ab, aa, Int.toNat_one]; (repeat refine an ?_); (try refine .inl ?_); apply k0; clear k0; simp only [zP, O])
  refine ag ?_
  apply k11; clear k11; refine kp [0, 1, 4, 5, 6, 45] ?_
  refine ax ?_
  refine ⟨by first | exact .inl rfl | exact .inr rfl, _, rfl, ?_⟩; simp only [zP, V, O, Int.toNat_one]
  have hU := aH (dX (X := .vars 29 [.str [], .nils, .nils, .int .i64 0, .int .i64 0, .nils, .nils]) (R := 67) (M := 27) (S := 45) (I := 3) (r := r) (a := a) (b := b) (U := U) (w := w) (x := .vars 29 [.str [], .nils, .nils, .int .i64 0, .int .i64 0, .nils, .nils]) (y := .vars 67 [.int .i64 (r.rd : Int), .list .str r.sts, .str r.nm, .list .str r.ins, .list .str r.outs, .int .i64 r.inp, .int .i64 r.st, a, b]))
  simp only [ak] at hU
  rw [hU]
  first
  | (have g9 := lF (X := .vars 29 [.str [], .nils, .nils, .int .i64 0, .int .i64 0, .nils, .nils]) (R := 67) (M := 27) (S := 45) (I := 3) (r := r) (a := a) (b := b) (U := U) (w := w) hbd
     obtain ⟨hE, hF⟩ := g9
     rw [hE, hF]; all_goals exact ⟨rfl, rfl⟩)
  | (have g9 := ia (X := .vars 29 [.str [], .nils, .nils, .int .i64 0, .int .i64 0, .nils, .nils]) (R := 67) (M := 27) (S := 45) (I := 3) (r := r) (a := a) (b := b) (U := U) (w := w) hgd (by omega) hnb
     obtain ⟨hE, hF⟩ := g9
     rw [hE, hF]; all_goals exact ⟨rfl, rfl⟩)
  | (have g9 := iu (X := .vars 29 [.str [], .nils, .nils, .int .i64 0, .int .i64 0, .nils, .nils]) (R := 67) (M := 27) (S := 45) (I := 3) (r := r) (a := a) (b := b) (U := U) (w := w) hgd (by omega) hnb
     obtain ⟨hE, hF⟩ := g9
     rw [hE, hF]; all_goals exact ⟨rfl, rfl⟩)
  | (have g9 := lA (X := .vars 29 [.str [], .nils, .nils, .int .i64 0, .int .i64 0, .nils, .nils]) (R := 67) (M := 27) (S := 45) (I := 3) (r := r) (a := a) (b := b) (U := U) (w := w) hgd (by omega)
     obtain ⟨hE, hF⟩ := g9
     rw [hE, hF]; all_goals exact ⟨rfl, rfl⟩)
  | (have g9 := lE (X := .vars 29 [.str [], .nils, .nils, .int .i64 0, .int .i64 0, .nils, .nils]) (R := 67) (M := 27) (S := 45) (I := 3) (r := r) (a := a) (b := b) (U := U) (w := w) hgd (by omega)
     obtain ⟨hE, hF⟩ := g9
     rw [hE, hF]; all_goals exact ⟨rfl, rfl⟩)
  | (have g9 := lw (X := .vars 29 [.str [], .nils, .nils, .int .i64 0, .int .i64 0, .nils, .nils]) (R := 67) (M := 27) (S := 45) (I := 3) (r := r) (a := a) (b := b) (U := U) (w := w) hgd (by omega)
     obtain ⟨hE, hF⟩ := g9
     rw [hE, hF]; all_goals exact ⟨rfl, rfl⟩)
  | (have g9 := ig (X := .vars 29 [.str [], .nils, .nils, .int .i64 0, .int .i64 0, .nils, .nils]) (R := 67) (M := 27) (S := 45) (I := 3) (r := r) (a := a) (b := b) (U := U) (w := w) hgd (by omega) hmm
     obtain ⟨hE, hF⟩ := g9
     rw [hE, hF]; all_goals exact ⟨rfl, rfl⟩)
  | (have g9 := hZ (X := .vars 29 [.str [], .nils, .nils, .int .i64 0, .int .i64 0, .nils, .nils]) (R := 67) (M := 27) (S := 45) (I := 3) (r := r) (a := a) (b := b) (U := U) (w := w) hgd (by omega) hmm
     obtain ⟨hE, hF⟩ := g9
     have hid : idA r.sts (w.getD 1 []) = (pos r.sts (w.getD 1 []) : Int) := if_pos hmm
     rw [hE, hF]
     try rw [hid]
     all_goals exact ⟨rfl, rfl⟩)
 (try simp only [zB, reduceCtorEq] at hc10)
 have hgd := And.intro hc10.1.2 hc10.2
 refine ay ?_
 apply k5; clear k5; refine kp [0, 1, 4, 5, 6, 45] ?_
 refine af fun _ k12 => ?_
 refine af fun _ k13 => ?_
 refine ah hP hN rfl ?_
 iterate 4 (refine ae rfl fun _ k0 => ?_; simp only [zO, zT, acs, reduceCtorEq, V, O, Z, ad, ab, aa, Int.toNat_one]; (repeat refine an ?_); (try refine .inl ?_); apply k0; clear k0; simp only [zP, O])
 refine ag ?_
 apply k13; clear k13; refine kp [0, 1, 4, 5, 6, 45, 49] ?_
 refine aE ?_
 refine af fun _ k14 => ?_
 refine ah hP hN rfl ?_
 iterate 2 (refine ae rfl fun _ k0 => ?_; simp only [zO, zT, acs, reduceCtorEq, V, O, Z, ad, ab, aa, Int.toNat_one]; (repeat refine an ?_); (try refine .inl ?_); apply k0; clear k0; simp only [zP, O])
 refine ag ?_
 apply k14; clear k14; refine kp [0, 1, 4, 5, 6, 45, 49, 50] ?_
 refine cd (fun hc15 => ?_) (fun hc15 => ?_)
 ·(try simp only [zB, reduceCtorEq] at hc15)
  refine af fun _ k16 => ?_
  refine af fun _ k17 => ?_
  refine ah hP hN rfl ?_
  iterate 3 (refine ae rfl fun _ k0 => ?_; simp only [zO, zT, acs, reduceCtorEq, V, O, Z, ad, ab, aa, Int.toNat_one]; (repeat refine an ?_); (try refine .inl ?_); apply k0; clear k0; simp only [zP, O])
  refine ae rfl fun _ k0 => ?_
  refine aC (h := au (nM (w.getD 1 []) (hn 1 (by omega)))) rfl rfl (by first | exact rfl | (simp only [ev, zP, V, O]; exact rfl)) (by simp only [zV, acs, reduceCtorEq, V, O, Z, ad, ab, aa, Int.toNat_one]) ?_
  apply k0; clear k0; simp only [zP, O]
  (refine ae rfl fun _ k0 => ?_; simp only [zO, zT, acs, reduceCtorEq, V, O, Z, ad, ab, aa, Int.toNat_one]; (repeat refine an ?_); (try refine .inl ?_); apply k0; clear k0; simp only [zP, O])
  refine ag ?_
  apply k17; clear k17; refine kp [0, 1, 4, 5, 6, 45, 49, 50, 56] ?_
  refine cd (fun hc18 => ?_) (fun hc18 => ?_)
  ·(try simp only [zB, reduceCtorEq] at hc18)
   have hnb : aY (w.getD 1 []) = false := by simpa using hc18
   refine af fun _ k19 => ?_
   refine ah hP hN rfl ?_
   (refine ae rfl fun _ k0 => ?_; simp only [zO, zT, acs, reduceCtorEq, V, O, Z, ad, ab, aa, Int.toNat_one]; (repeat refine an ?_); (try refine .inl ?_); apply k0; clear k0; simp only [zP, O])
   refine ag ?_
   apply k19; clear k19; refine kp [0, 1, 4, 5, 6, 45, 49, 50, 56] ?_
   refine ax ?_
   refine ⟨by first | exact .inl rfl | exact .inr rfl, _, rfl, ?_⟩; simp only [zP, V, O, Int.toNat_one]
   have hU := aH (dX (X := .vars 29 [.str [], .nils, .nils, .int .i64 0, .int .i64 0, .nils, .nils]) (R := 67) (M := 27) (S := 45) (I := 3) (r := r) (a := a) (b := b) (U := U) (w := w) (x := .vars 29 [.str [], .nils, .nils, .int .i64 0, .int .i64 0, .nils, .nils]) (y := .vars 67 [.int .i64 (r.rd : Int), .list .str r.sts, .str r.nm, .list .str r.ins, .list .str r.outs, .int .i64 r.inp, .int .i64 r.st, a, b]))
   simp only [ak] at hU
   rw [hU]
   first
   | (have g9 := lF (X := .vars 29 [.str [], .nils, .nils, .int .i64 0, .int .i64 0, .nils, .nils]) (R := 67) (M := 27) (S := 45) (I := 3) (r := r) (a := a) (b := b) (U := U) (w := w) hbd
      obtain ⟨hE, hF⟩ := g9
      rw [hE, hF]; all_goals exact ⟨rfl, rfl⟩)
   | (have g9 := ia (X := .vars 29 [.str [], .nils, .nils, .int .i64 0, .int .i64 0, .nils, .nils]) (R := 67) (M := 27) (S := 45) (I := 3) (r := r) (a := a) (b := b) (U := U) (w := w) hgd (by omega) hnb
      obtain ⟨hE, hF⟩ := g9
      rw [hE, hF]; all_goals exact ⟨rfl, rfl⟩)
   | (have g9 := iu (X := .vars 29 [.str [], .nils, .nils, .int .i64 0, .int .i64 0, .nils, .nils]) (R := 67) (M := 27) (S := 45) (I := 3) (r := r) (a := a) (b := b) (U := U) (w := w) hgd (by omega) hnb
      obtain ⟨hE, hF⟩ := g9
      rw [hE, hF]; all_goals exact ⟨rfl, rfl⟩)
   | (have g9 := lA (X := .vars 29 [.str [], .nils, .nils, .int .i64 0, .int .i64 0, .nils, .nils]) (R := 67) (M := 27) (S := 45) (I := 3) (r := r) (a := a) (b := b) (U := U) (w := w) hgd (by omega)
      obtain ⟨hE, hF⟩ := g9
      rw [hE, hF]; all_goals exact ⟨rfl, rfl⟩)
   | (have g9 := lE (X := .vars 29 [.str [], .nils, .nils, .int .i64 0, .int .i64 0, .nils, .nils]) (R := 67) (M := 27) (S := 45) (I := 3) (r := r) (a := a) (b := b) (U := U) (w := w) hgd (by omega)
      obtain ⟨hE, hF⟩ := g9
      rw [hE, hF]; all_goals exact ⟨rfl, rfl⟩)
   | (have g9 := lw (X := .vars 29 [.str [], .nils, .nils, .int .i64 0, .int .i64 0, .nils, .nils]) (R := 67) (M := 27) (S := 45) (I := 3) (r := r) (a := a) (b := b) (U := U) (w := w) hgd (by omega)
      obtain ⟨hE, hF⟩ := g9
      rw [hE, hF]; all_goals exact ⟨rfl, rfl⟩)
   | (have g9 := ig (X := .vars 29 [.str [], .nils, .nils, .int .i64 0, .int .i64 0, .nils, .nils]) (R := 67) (M := 27) (S := 45) (I := 3) (r := r) (a := a) (b := b) (U := U) (w := w) hgd (by omega) hmm
      obtain ⟨hE, hF⟩ := g9
      rw [hE, hF]; all_goals exact ⟨rfl, rfl⟩)
   | (have g9 := hZ (X := .vars 29 [.str [], .nils, .nils, .int .i64 0, .int .i64 0, .nils, .nils]) (R := 67) (M := 27) (S := 45) (I := 3) (r := r) (a := a) (b := b) (U := U) (w := w) hgd (by omega) hmm
      obtain ⟨hE, hF⟩ := g9
      have hid : idA r.sts (w.getD 1 []) = (pos r.sts (w.getD 1 []) : Int) := if_pos hmm
      rw [hE, hF]
      try rw [hid]
      all_goals exact ⟨rfl, rfl⟩)
  (try simp only [zB, reduceCtorEq] at hc18)
  have hnb : aY (w.getD 1 []) = true := by simpa using hc18
  refine ay ?_
  apply k16; clear k16; refine kp [0, 1, 4, 5, 6, 45, 49, 50, 56] ?_
  refine ah hP hN rfl ?_
  iterate 8 (refine ae rfl fun _ k0 => ?_; simp only [zO, zT, acs, reduceCtorEq, V, O, Z, ad, ab, aa, Int.toNat_one]; (repeat refine an ?_); (try refine .inl ?_); apply k0; clear k0; simp only [zP, O])
  refine ag ?_
  apply k12; clear k12; refine kp [0, 1, 4, 5, 6, 45, 49, 50, 56] ?_
  refine af fun _ k20 => ?_
  refine ah hP hN rfl ?_
  (refine ae rfl fun _ k0 => ?_; simp only [zO, zT, acs, reduceCtorEq, V, O, Z, ad, ab, aa, Int.toNat_one]; (repeat refine an ?_); (try refine .inl ?_); apply k0; clear k0; simp only [zP, O])
  refine ag ?_
  apply k20; clear k20; refine kp [0, 1, 4, 5, 6, 45, 49, 50, 56] ?_
  refine ax ?_
  refine ⟨by first | exact .inl rfl | exact .inr rfl, _, rfl, ?_⟩; simp only [zP, V, O, Int.toNat_one]
  have hU := aH (dX (X := .vars 29 [.str [], .nils, .nils, .int .i64 0, .int .i64 0, .nils, .nils]) (R := 67) (M := 27) (S := 45) (I := 3) (r := r) (a := a) (b := b) (U := U) (w := w) (x := .vars 29 [.str [], .nils, .nils, .int .i64 0, .int .i64 0, .nils, .nils]) (y := .vars 67 [.int .i64 (r.rd : Int), .list .str r.sts, .str r.nm, .list .str r.ins, .list .str r.outs, .int .i64 r.inp, .int .i64 r.st, a, b]))
  simp only [ak] at hU
  rw [hU]
  first
  | (have g9 := lF (X := .vars 29 [.str [], .nils, .nils, .int .i64 0, .int .i64 0, .nils, .nils]) (R := 67) (M := 27) (S := 45) (I := 3) (r := r) (a := a) (b := b) (U := U) (w := w) hbd
     obtain ⟨hE, hF⟩ := g9
     rw [hE, hF]; all_goals exact ⟨rfl, rfl⟩)
  | (have g9 := ia (X := .vars 29 [.str [], .nils, .nils, .int .i64 0, .int .i64 0, .nils, .nils]) (R := 67) (M := 27) (S := 45) (I := 3) (r := r) (a := a) (b := b) (U := U) (w := w) hgd (by omega) hnb
     obtain ⟨hE, hF⟩ := g9
     rw [hE, hF]; all_goals exact ⟨rfl, rfl⟩)
  | (have g9 := iu (X := .vars 29 [.str [], .nils, .nils, .int .i64 0, .int .i64 0, .nils, .nils]) (R := 67) (M := 27) (S := 45) (I := 3) (r := r) (a := a) (b := b) (U := U) (w := w) hgd (by omega) hnb
     obtain ⟨hE, hF⟩ := g9
     rw [hE, hF]; all_goals exact ⟨rfl, rfl⟩)
  | (have g9 := lA (X := .vars 29 [.str [], .nils, .nils, .int .i64 0, .int .i64 0, .nils, .nils]) (R := 67) (M := 27) (S := 45) (I := 3) (r := r) (a := a) (b := b) (U := U) (w := w) hgd (by omega)
     obtain ⟨hE, hF⟩ := g9
     rw [hE, hF]; all_goals exact ⟨rfl, rfl⟩)
  | (have g9 := lE (X := .vars 29 [.str [], .nils, .nils, .int .i64 0, .int .i64 0, .nils, .nils]) (R := 67) (M := 27) (S := 45) (I := 3) (r := r) (a := a) (b := b) (U := U) (w := w) hgd (by omega)
     obtain ⟨hE, hF⟩ := g9
     rw [hE, hF]; all_goals exact ⟨rfl, rfl⟩)
  | (have g9 := lw (X := .vars 29 [.str [], .nils, .nils, .int .i64 0, .int .i64 0, .nils, .nils]) (R := 67) (M := 27) (S := 45) (I := 3) (r := r) (a := a) (b := b) (U := U) (w := w) hgd (by omega)
     obtain ⟨hE, hF⟩ := g9
     rw [hE, hF]; all_goals exact ⟨rfl, rfl⟩)
  | (have g9 := ig (X := .vars 29 [.str [], .nils, .nils, .int .i64 0, .int .i64 0, .nils, .nils]) (R := 67) (M := 27) (S := 45) (I := 3) (r := r) (a := a) (b := b) (U := U) (w := w) hgd (by omega) hmm
     obtain ⟨hE, hF⟩ := g9
     rw [hE, hF]; all_goals exact ⟨rfl, rfl⟩)
  | (have g9 := hZ (X := .vars 29 [.str [], .nils, .nils, .int .i64 0, .int .i64 0, .nils, .nils]) (R := 67) (M := 27) (S := 45) (I := 3) (r := r) (a := a) (b := b) (U := U) (w := w) hgd (by omega) hmm
     obtain ⟨hE, hF⟩ := g9
     have hid : idA r.sts (w.getD 1 []) = (pos r.sts (w.getD 1 []) : Int) := if_pos hmm
     rw [hE, hF]
     try rw [hid]
     all_goals exact ⟨rfl, rfl⟩)
 (try simp only [zB, reduceCtorEq] at hc15)
 refine af fun _ k21 => ?_
 refine ah hP hN rfl ?_
 iterate 2 (refine ae rfl fun _ k0 => ?_; simp only [zO, zT, acs, reduceCtorEq, V, O, Z, ad, ab, aa, Int.toNat_one]; (repeat refine an ?_); (try refine .inl ?_); apply k0; clear k0; simp only [zP, O])
 refine ag ?_
 apply k21; clear k21; refine kp [0, 1, 4, 5, 6, 45, 49, 50, 64] ?_
 refine cd (fun hc22 => ?_) (fun hc22 => ?_)
 ·(try simp only [zB, reduceCtorEq] at hc22)
  refine af fun _ k23 => ?_
  refine ah hP hN rfl ?_
  iterate 2 (refine ae rfl fun _ k0 => ?_; simp only [zO, zT, acs, reduceCtorEq, V, O, Z, ad, ab, aa, Int.toNat_one, aD]; (repeat refine an ?_); (try refine .inl ?_); apply k0; clear k0; simp only [zP, O])
  (refine ae rfl fun _ k0 => ?_; simp only [zE, op1, ev, lkp, db, bB, ck, bnd, Ty.size, gq, bj, bc, bp, fQ, ci, d7, Nat.mul_one, b0, acs, Ty.dflt, zG, reduceCtorEq, V, O, Z, ad, ab, aa, Tryz.el22, Tryz.st24, Tryz.st29, Tryz.st67, Tryz.td1, Tryz.td2, Tryz.td22, Tryz.td24, Tryz.td29, Tryz.td65, Tryz.td67, Int.toNat_one, aD]; (repeat refine an ?_); (try refine .inl ?_); apply k0; clear k0; simp only [zP, O])
  iterate 5 (refine ae rfl fun _ k0 => ?_; simp only [zO, zT, acs, reduceCtorEq, V, O, Z, ad, ab, aa, Int.toNat_one, aD]; (repeat refine an ?_); (try refine .inl ?_); apply k0; clear k0; simp only [zP, O])
  refine ag ?_
  apply k23; clear k23; refine kp [0, 1, 4, 5, 6, 45, 49, 50, 64] ?_
  refine af fun _ k24 => ?_
  refine ah hP hN rfl ?_
  iterate 5 (refine ae rfl fun _ k0 => ?_; simp only [zO, zT, acs, reduceCtorEq, V, O, Z, ad, ab, aa, Int.toNat_one]; (repeat refine an ?_); (try refine .inl ?_); apply k0; clear k0; simp only [zP, O])
  refine ae rfl fun _ k0 => ?_
  refine aC (h := au (lC (w.drop 1) hd1)) rfl rfl (by first | exact rfl | (simp only [ev, zP, V, O]; exact rfl)) (by simp only [zV, acs, reduceCtorEq, V, O, Z, ad, ab, aa, Int.toNat_one]) ?_
  apply k0; clear k0; simp only [zP, O]
  (refine ae rfl fun _ k0 => ?_; simp only [zO, zT, acs, reduceCtorEq, V, O, Z, ad, ab, aa, Int.toNat_one]; (repeat refine an ?_); (try refine .inl ?_); apply k0; clear k0; simp only [zP, O])
  refine ag ?_
  apply k24; clear k24; refine kp [0, 1, 4, 5, 6, 45, 49, 50, 64] ?_
  refine ax ?_
  refine ⟨by first | exact .inl rfl | exact .inr rfl, _, rfl, ?_⟩; simp only [zP, V, O, Int.toNat_one]
  have hU := aH (dX (X := .vars 29 [.str [], .nils, .nils, .int .i64 0, .int .i64 0, .nils, .nils]) (R := 67) (M := 27) (S := 45) (I := 3) (r := r) (a := a) (b := b) (U := U) (w := w) (x := .vars 29 [.str [], .nils, .nils, .int .i64 0, .int .i64 0, .nils, .nils]) (y := .vars 67 [.int .i64 (r.rd : Int), .list .str r.sts, .str r.nm, .list .str r.ins, .list .str r.outs, .int .i64 r.inp, .int .i64 r.st, a, b]))
  simp only [ak] at hU
  rw [hU]
  first
  | (have g9 := lF (X := .vars 29 [.str [], .nils, .nils, .int .i64 0, .int .i64 0, .nils, .nils]) (R := 67) (M := 27) (S := 45) (I := 3) (r := r) (a := a) (b := b) (U := U) (w := w) hbd
     obtain ⟨hE, hF⟩ := g9
     rw [hE, hF]; all_goals exact ⟨rfl, rfl⟩)
  | (have g9 := ia (X := .vars 29 [.str [], .nils, .nils, .int .i64 0, .int .i64 0, .nils, .nils]) (R := 67) (M := 27) (S := 45) (I := 3) (r := r) (a := a) (b := b) (U := U) (w := w) hgd (by omega) hnb
     obtain ⟨hE, hF⟩ := g9
     rw [hE, hF]; all_goals exact ⟨rfl, rfl⟩)
  | (have g9 := iu (X := .vars 29 [.str [], .nils, .nils, .int .i64 0, .int .i64 0, .nils, .nils]) (R := 67) (M := 27) (S := 45) (I := 3) (r := r) (a := a) (b := b) (U := U) (w := w) hgd (by omega) hnb
     obtain ⟨hE, hF⟩ := g9
     rw [hE, hF]; all_goals exact ⟨rfl, rfl⟩)
  | (have g9 := lA (X := .vars 29 [.str [], .nils, .nils, .int .i64 0, .int .i64 0, .nils, .nils]) (R := 67) (M := 27) (S := 45) (I := 3) (r := r) (a := a) (b := b) (U := U) (w := w) hgd (by omega)
     obtain ⟨hE, hF⟩ := g9
     rw [hE, hF]; all_goals exact ⟨rfl, rfl⟩)
  | (have g9 := lE (X := .vars 29 [.str [], .nils, .nils, .int .i64 0, .int .i64 0, .nils, .nils]) (R := 67) (M := 27) (S := 45) (I := 3) (r := r) (a := a) (b := b) (U := U) (w := w) hgd (by omega)
     obtain ⟨hE, hF⟩ := g9
     rw [hE, hF]; all_goals exact ⟨rfl, rfl⟩)
  | (have g9 := lw (X := .vars 29 [.str [], .nils, .nils, .int .i64 0, .int .i64 0, .nils, .nils]) (R := 67) (M := 27) (S := 45) (I := 3) (r := r) (a := a) (b := b) (U := U) (w := w) hgd (by omega)
     obtain ⟨hE, hF⟩ := g9
     rw [hE, hF]; all_goals exact ⟨rfl, rfl⟩)
  | (have g9 := ig (X := .vars 29 [.str [], .nils, .nils, .int .i64 0, .int .i64 0, .nils, .nils]) (R := 67) (M := 27) (S := 45) (I := 3) (r := r) (a := a) (b := b) (U := U) (w := w) hgd (by omega) hmm
     obtain ⟨hE, hF⟩ := g9
     rw [hE, hF]; all_goals exact ⟨rfl, rfl⟩)
  | (have g9 := hZ (X := .vars 29 [.str [], .nils, .nils, .int .i64 0, .int .i64 0, .nils, .nils]) (R := 67) (M := 27) (S := 45) (I := 3) (r := r) (a := a) (b := b) (U := U) (w := w) hgd (by omega) hmm
     obtain ⟨hE, hF⟩ := g9
     have hid : idA r.sts (w.getD 1 []) = (pos r.sts (w.getD 1 []) : Int) := if_pos hmm
     rw [hE, hF]
     try rw [hid]
     all_goals exact ⟨rfl, rfl⟩)
 (try simp only [zB, reduceCtorEq] at hc22)
 refine af fun _ k25 => ?_
 refine ah hP hN rfl ?_
 iterate 2 (refine ae rfl fun _ k0 => ?_; simp only [zO, zT, acs, reduceCtorEq, V, O, Z, ad, ab, aa, Int.toNat_one]; (repeat refine an ?_); (try refine .inl ?_); apply k0; clear k0; simp only [zP, O])
 refine ag ?_
 apply k25; clear k25; refine kp [0, 1, 4, 5, 6, 45, 49, 50, 64, 79] ?_
 refine cd (fun hc26 => ?_) (fun hc26 => ?_)
 ·(try simp only [zB, reduceCtorEq] at hc26)
  refine af fun _ k27 => ?_
  refine ah hP hN rfl ?_
  iterate 2 (refine ae rfl fun _ k0 => ?_; simp only [zO, zT, acs, reduceCtorEq, V, O, Z, ad, ab, aa, Int.toNat_one, aD]; (repeat refine an ?_); (try refine .inl ?_); apply k0; clear k0; simp only [zP, O])
  (refine ae rfl fun _ k0 => ?_; simp only [zE, op1, ev, lkp, db, bB, ck, bnd, Ty.size, gq, bj, bc, bp, fQ, ci, d7, Nat.mul_one, b0, acs, Ty.dflt, zG, reduceCtorEq, V, O, Z, ad, ab, aa, Tryz.el22, Tryz.st24, Tryz.st29, Tryz.st67, Tryz.td2, Tryz.td22, Tryz.td24, Tryz.td29, Tryz.td65, Tryz.td67, Int.toNat_one, aD]; (repeat refine an ?_); (try refine .inl ?_); apply k0; clear k0; simp only [zP, O])
  iterate 5 (refine ae rfl fun _ k0 => ?_; simp only [zO, zT, acs, reduceCtorEq, V, O, Z, ad, ab, aa, Int.toNat_one, aD]; (repeat refine an ?_); (try refine .inl ?_); apply k0; clear k0; simp only [zP, O])
  refine ag ?_
  apply k27; clear k27; refine kp [0, 1, 4, 5, 6, 45, 49, 50, 64, 79] ?_
  refine af fun _ k28 => ?_
  refine ah hP hN rfl ?_
  iterate 5 (refine ae rfl fun _ k0 => ?_; simp only [zO, zT, acs, reduceCtorEq, V, O, Z, ad, ab, aa, Int.toNat_one]; (repeat refine an ?_); (try refine .inl ?_); apply k0; clear k0; simp only [zP, O])
  refine ae rfl fun _ k0 => ?_
  refine aC (h := au (lC (w.drop 1) hd1)) rfl rfl (by first | exact rfl | (simp only [ev, zP, V, O]; exact rfl)) (by simp only [zV, acs, reduceCtorEq, V, O, Z, ad, ab, aa, Int.toNat_one]) ?_
  apply k0; clear k0; simp only [zP, O]
  (refine ae rfl fun _ k0 => ?_; simp only [zO, zT, acs, reduceCtorEq, V, O, Z, ad, ab, aa, Int.toNat_one]; (repeat refine an ?_); (try refine .inl ?_); apply k0; clear k0; simp only [zP, O])
  refine ag ?_
  apply k28; clear k28; refine kp [0, 1, 4, 5, 6, 45, 49, 50, 64, 79] ?_
  refine ax ?_
  refine ⟨by first | exact .inl rfl | exact .inr rfl, _, rfl, ?_⟩; simp only [zP, V, O, Int.toNat_one]
  have hU := aH (dX (X := .vars 29 [.str [], .nils, .nils, .int .i64 0, .int .i64 0, .nils, .nils]) (R := 67) (M := 27) (S := 45) (I := 3) (r := r) (a := a) (b := b) (U := U) (w := w) (x := .vars 29 [.str [], .nils, .nils, .int .i64 0, .int .i64 0, .nils, .nils]) (y := .vars 67 [.int .i64 (r.rd : Int), .list .str r.sts, .str r.nm, .list .str r.ins, .list .str r.outs, .int .i64 r.inp, .int .i64 r.st, a, b]))
  simp only [ak] at hU
  rw [hU]
  first
  | (have g9 := lF (X := .vars 29 [.str [], .nils, .nils, .int .i64 0, .int .i64 0, .nils, .nils]) (R := 67) (M := 27) (S := 45) (I := 3) (r := r) (a := a) (b := b) (U := U) (w := w) hbd
     obtain ⟨hE, hF⟩ := g9
     rw [hE, hF]; all_goals exact ⟨rfl, rfl⟩)
  | (have g9 := ia (X := .vars 29 [.str [], .nils, .nils, .int .i64 0, .int .i64 0, .nils, .nils]) (R := 67) (M := 27) (S := 45) (I := 3) (r := r) (a := a) (b := b) (U := U) (w := w) hgd (by omega) hnb
     obtain ⟨hE, hF⟩ := g9
     rw [hE, hF]; all_goals exact ⟨rfl, rfl⟩)
  | (have g9 := iu (X := .vars 29 [.str [], .nils, .nils, .int .i64 0, .int .i64 0, .nils, .nils]) (R := 67) (M := 27) (S := 45) (I := 3) (r := r) (a := a) (b := b) (U := U) (w := w) hgd (by omega) hnb
     obtain ⟨hE, hF⟩ := g9
     rw [hE, hF]; all_goals exact ⟨rfl, rfl⟩)
  | (have g9 := lA (X := .vars 29 [.str [], .nils, .nils, .int .i64 0, .int .i64 0, .nils, .nils]) (R := 67) (M := 27) (S := 45) (I := 3) (r := r) (a := a) (b := b) (U := U) (w := w) hgd (by omega)
     obtain ⟨hE, hF⟩ := g9
     rw [hE, hF]; all_goals exact ⟨rfl, rfl⟩)
  | (have g9 := lE (X := .vars 29 [.str [], .nils, .nils, .int .i64 0, .int .i64 0, .nils, .nils]) (R := 67) (M := 27) (S := 45) (I := 3) (r := r) (a := a) (b := b) (U := U) (w := w) hgd (by omega)
     obtain ⟨hE, hF⟩ := g9
     rw [hE, hF]; all_goals exact ⟨rfl, rfl⟩)
  | (have g9 := lw (X := .vars 29 [.str [], .nils, .nils, .int .i64 0, .int .i64 0, .nils, .nils]) (R := 67) (M := 27) (S := 45) (I := 3) (r := r) (a := a) (b := b) (U := U) (w := w) hgd (by omega)
     obtain ⟨hE, hF⟩ := g9
     rw [hE, hF]; all_goals exact ⟨rfl, rfl⟩)
  | (have g9 := ig (X := .vars 29 [.str [], .nils, .nils, .int .i64 0, .int .i64 0, .nils, .nils]) (R := 67) (M := 27) (S := 45) (I := 3) (r := r) (a := a) (b := b) (U := U) (w := w) hgd (by omega) hmm
     obtain ⟨hE, hF⟩ := g9
     rw [hE, hF]; all_goals exact ⟨rfl, rfl⟩)
  | (have g9 := hZ (X := .vars 29 [.str [], .nils, .nils, .int .i64 0, .int .i64 0, .nils, .nils]) (R := 67) (M := 27) (S := 45) (I := 3) (r := r) (a := a) (b := b) (U := U) (w := w) hgd (by omega) hmm
     obtain ⟨hE, hF⟩ := g9
     have hid : idA r.sts (w.getD 1 []) = (pos r.sts (w.getD 1 []) : Int) := if_pos hmm
     rw [hE, hF]
     try rw [hid]
     all_goals exact ⟨rfl, rfl⟩)
 (try simp only [zB, reduceCtorEq] at hc26)
 refine af fun _ k29 => ?_
 refine ah hP hN rfl ?_
 iterate 2 (refine ae rfl fun _ k0 => ?_; simp only [zO, zT, acs, reduceCtorEq, V, O, Z, ad, ab, aa, Int.toNat_one]; (repeat refine an ?_); (try refine .inl ?_); apply k0; clear k0; simp only [zP, O])
 refine ag ?_
 apply k29; clear k29; refine kp [0, 1, 4, 5, 6, 45, 49, 50, 64, 79, 94] ?_
 refine cd (fun hc30 => ?_) (fun hc30 => ?_)
 ·(try simp only [zB, reduceCtorEq] at hc30)
  refine af fun _ k31 => ?_
  refine ah hP hN rfl ?_
  iterate 2 (refine ae rfl fun _ k0 => ?_; simp only [zO, zT, acs, reduceCtorEq, V, O, Z, ad, ab, aa, Int.toNat_one, aD]; (repeat refine an ?_); (try refine .inl ?_); apply k0; clear k0; simp only [zP, O])
  (refine ae rfl fun _ k0 => ?_; simp only [zE, op1, ev, lkp, db, bB, ck, bnd, Ty.size, fQ, ci, d7, Nat.mul_one, bp, bc, b0, acs, Ty.dflt, zG, reduceCtorEq, V, O, Z, ad, ab, aa, Tryz.el22, Tryz.st67, Tryz.td1, Tryz.td22, Tryz.td65, Tryz.td67, Int.toNat_one, aD]; (repeat refine an ?_); (try refine .inl ?_); apply k0; clear k0; simp only [zP, O])
  iterate 3 (refine ae rfl fun _ k0 => ?_; simp only [zO, zT, acs, reduceCtorEq, V, O, Z, ad, ab, aa, Int.toNat_one, aD]; (repeat refine an ?_); (try refine .inl ?_); apply k0; clear k0; simp only [zP, O])
  refine ag ?_
  apply k31; clear k31; refine kp [0, 1, 4, 5, 6, 45, 49, 50, 64, 79, 94] ?_
  refine af fun _ k32 => ?_
  refine ah hP hN rfl ?_
  iterate 11 (refine ae rfl fun _ k0 => ?_; simp only [zO, zT, acs, reduceCtorEq, V, O, Z, ad, ab, aa, Int.toNat_one, hw1, ak]; (repeat refine an ?_); (try refine .inl ?_); apply k0; clear k0; simp only [zP, O, ak, am])
  refine ae rfl fun _ k0 => ?_
  refine aC (h := pW _ (w.drop 1).length r.ins.length (by rw [List.length_drop]; omega) (hi (by omega))) rfl rfl (by first | exact rfl | (simp only [ev, zP, V, O]; exact rfl)) (by simp only [zV, acs, reduceCtorEq, V, O, Z, ad, ab, aa, Int.toNat_one, hw1, ak]) ?_
  apply k0; clear k0; simp only [zP, O, ak, am]
  iterate 4 (refine ae rfl fun _ k0 => ?_; simp only [zO, zT, acs, reduceCtorEq, V, O, Z, ad, ab, aa, Int.toNat_one, hw1, ak]; (repeat refine an ?_); (try refine .inl ?_); apply k0; clear k0; simp only [zP, O, ak, am])
  refine ag ?_
  apply k32; clear k32; refine kp [0, 1, 4, 5, 6, 45, 49, 50, 64, 79, 94] ?_
  refine af fun _ k33 => ?_
  refine ah hP hN rfl ?_
  iterate 4 (refine ae rfl fun _ k0 => ?_; simp only [zO, zT, acs, reduceCtorEq, V, O, Z, ad, ab, aa, Int.toNat_one]; (repeat refine an ?_); (try refine .inl ?_); apply k0; clear k0; simp only [zP, O])
  refine ae rfl fun _ k0 => ?_
  refine aC (h := au (uX (w.drop 1) hd1)) rfl rfl (by first | exact rfl | (simp only [ev, zP, V, O]; exact rfl)) (by simp only [zV, acs, reduceCtorEq, V, O, Z, ad, ab, aa, Int.toNat_one]) ?_
  apply k0; clear k0; simp only [zP, O]
  (refine ae rfl fun _ k0 => ?_; simp only [zO, zT, acs, reduceCtorEq, V, O, Z, ad, ab, aa, Int.toNat_one]; (repeat refine an ?_); (try refine .inl ?_); apply k0; clear k0; simp only [zP, O])
  refine ag ?_
  apply k33; clear k33; refine kp [0, 1, 4, 5, 6, 45, 49, 50, 64, 79, 94] ?_
  refine ax ?_
  refine ⟨by first | exact .inl rfl | exact .inr rfl, _, rfl, ?_⟩; simp only [zP, V, O, Int.toNat_one]
  have hU := aH (dX (X := .vars 29 [.str [], .nils, .nils, .int .i64 0, .int .i64 0, .nils, .nils]) (R := 67) (M := 27) (S := 45) (I := 3) (r := r) (a := a) (b := b) (U := U) (w := w) (x := .vars 29 [.str [], .nils, .nils, .int .i64 0, .int .i64 0, .nils, .nils]) (y := .vars 67 [.int .i64 (r.rd : Int), .list .str r.sts, .str r.nm, .list .str r.ins, .list .str r.outs, .int .i64 r.inp, .int .i64 r.st, a, b]))
  simp only [ak] at hU
  rw [hU]
  first
  | (have g9 := lF (X := .vars 29 [.str [], .nils, .nils, .int .i64 0, .int .i64 0, .nils, .nils]) (R := 67) (M := 27) (S := 45) (I := 3) (r := r) (a := a) (b := b) (U := U) (w := w) hbd
     obtain ⟨hE, hF⟩ := g9
     rw [hE, hF]; all_goals exact ⟨rfl, rfl⟩)
  | (have g9 := ia (X := .vars 29 [.str [], .nils, .nils, .int .i64 0, .int .i64 0, .nils, .nils]) (R := 67) (M := 27) (S := 45) (I := 3) (r := r) (a := a) (b := b) (U := U) (w := w) hgd (by omega) hnb
     obtain ⟨hE, hF⟩ := g9
     rw [hE, hF]; all_goals exact ⟨rfl, rfl⟩)
  | (have g9 := iu (X := .vars 29 [.str [], .nils, .nils, .int .i64 0, .int .i64 0, .nils, .nils]) (R := 67) (M := 27) (S := 45) (I := 3) (r := r) (a := a) (b := b) (U := U) (w := w) hgd (by omega) hnb
     obtain ⟨hE, hF⟩ := g9
     rw [hE, hF]; all_goals exact ⟨rfl, rfl⟩)
  | (have g9 := lA (X := .vars 29 [.str [], .nils, .nils, .int .i64 0, .int .i64 0, .nils, .nils]) (R := 67) (M := 27) (S := 45) (I := 3) (r := r) (a := a) (b := b) (U := U) (w := w) hgd (by omega)
     obtain ⟨hE, hF⟩ := g9
     rw [hE, hF]; all_goals exact ⟨rfl, rfl⟩)
  | (have g9 := lE (X := .vars 29 [.str [], .nils, .nils, .int .i64 0, .int .i64 0, .nils, .nils]) (R := 67) (M := 27) (S := 45) (I := 3) (r := r) (a := a) (b := b) (U := U) (w := w) hgd (by omega)
     obtain ⟨hE, hF⟩ := g9
     rw [hE, hF]; all_goals exact ⟨rfl, rfl⟩)
  | (have g9 := lw (X := .vars 29 [.str [], .nils, .nils, .int .i64 0, .int .i64 0, .nils, .nils]) (R := 67) (M := 27) (S := 45) (I := 3) (r := r) (a := a) (b := b) (U := U) (w := w) hgd (by omega)
     obtain ⟨hE, hF⟩ := g9
     rw [hE, hF]; all_goals exact ⟨rfl, rfl⟩)
  | (have g9 := ig (X := .vars 29 [.str [], .nils, .nils, .int .i64 0, .int .i64 0, .nils, .nils]) (R := 67) (M := 27) (S := 45) (I := 3) (r := r) (a := a) (b := b) (U := U) (w := w) hgd (by omega) hmm
     obtain ⟨hE, hF⟩ := g9
     rw [hE, hF]; all_goals exact ⟨rfl, rfl⟩)
  | (have g9 := hZ (X := .vars 29 [.str [], .nils, .nils, .int .i64 0, .int .i64 0, .nils, .nils]) (R := 67) (M := 27) (S := 45) (I := 3) (r := r) (a := a) (b := b) (U := U) (w := w) hgd (by omega) hmm
     obtain ⟨hE, hF⟩ := g9
     have hid : idA r.sts (w.getD 1 []) = (pos r.sts (w.getD 1 []) : Int) := if_pos hmm
     rw [hE, hF]
     try rw [hid]
     all_goals exact ⟨rfl, rfl⟩)
 (try simp only [zB, reduceCtorEq] at hc30)
 refine af fun _ k34 => ?_
 refine ah hP hN rfl ?_
 iterate 2 (refine ae rfl fun _ k0 => ?_; simp only [zO, zT, acs, reduceCtorEq, V, O, Z, ad, ab, aa, Int.toNat_one]; (repeat refine an ?_); (try refine .inl ?_); apply k0; clear k0; simp only [zP, O])
 refine ag ?_
 apply k34; clear k34; refine kp [0, 1, 4, 5, 6, 45, 49, 50, 64, 79, 94, 121] ?_
 refine cd (fun hc35 => ?_) (fun hc35 => ?_)
 ·(try simp only [zB, reduceCtorEq] at hc35)
  refine af fun _ k36 => ?_
  refine bZ hP hN Tryz.mixed rfl ?_
  iterate 8 (refine ae rfl fun _ k0 => ?_; simp only [zO, zT, acs, reduceCtorEq, V, O, Z, ad, ab, aa, Int.toNat_one]; (repeat refine an ?_); (try refine .inl ?_); apply k0; clear k0; simp only [zP, O])
  refine ae rfl fun _ k0 => ?_
  refine aC (h := au (dy r.sts (w.getD 1 []))) rfl rfl (by first | exact rfl | (simp only [ev, zP, V, O]; exact rfl)) (by simp only [zV, acs, reduceCtorEq, V, O, Z, ad, ab, aa, Int.toNat_one]) ?_
  apply k0; clear k0; simp only [zP, O]
  iterate 5 (refine ae rfl fun _ k0 => ?_; simp only [zO, zT, acs, reduceCtorEq, V, O, Z, ad, ab, aa, Int.toNat_one]; (repeat refine an ?_); (try refine .inl ?_); apply k0; clear k0; simp only [zP, O])
  refine ag ?_
  refine ⟨by kernel_rfl, ?_⟩
  apply k36; clear k36; refine kp [0, 1, 4, 5, 6, 7, 8, 45, 49, 50, 64, 79, 94, 121] ?_
  refine af fun _ k37 => ?_
  refine af fun _ k38 => ?_
  refine ah hP hN rfl ?_
  iterate 2 (refine ae rfl fun _ k0 => ?_; simp only [zO, zT, acs, reduceCtorEq, V, O, Z, ad, ab, aa, Int.toNat_one]; (repeat refine an ?_); (try refine .inl ?_); apply k0; clear k0; simp only [zP, O])
  refine ag ?_
  apply k38; clear k38; refine kp [0, 1, 4, 5, 6, 7, 8, 45, 49, 50, 64, 79, 94, 121, 136] ?_
  refine cd (fun hc39 => ?_) (fun hc39 => ?_)
  ·(try simp only [zB, reduceCtorEq] at hc39)
   have hmm : w.getD 1 [] ∉ r.sts := by simpa using hc39
   refine af fun _ k40 => ?_
   refine ah hP hN rfl ?_
   (refine ae rfl fun _ k0 => ?_; simp only [zO, zT, acs, reduceCtorEq, V, O, Z, ad, ab, aa, Int.toNat_one]; (repeat refine an ?_); (try refine .inl ?_); apply k0; clear k0; simp only [zP, O])
   refine ag ?_
   apply k40; clear k40; refine kp [0, 1, 4, 5, 6, 7, 8, 45, 49, 50, 64, 79, 94, 121, 136] ?_
   refine ax ?_
   refine ⟨by first | exact .inl rfl | exact .inr rfl, _, rfl, ?_⟩; simp only [zP, V, O, Int.toNat_one]
   have hU := aH (dX (X := .vars 29 [.str [], .nils, .nils, .int .i64 0, .int .i64 0, .nils, .nils]) (R := 67) (M := 27) (S := 45) (I := 3) (r := r) (a := a) (b := b) (U := U) (w := w) (x := .vars 29 [.str [], .nils, .nils, .int .i64 0, .int .i64 0, .nils, .nils]) (y := .vars 67 [.int .i64 (r.rd : Int), .list .str r.sts, .str r.nm, .list .str r.ins, .list .str r.outs, .int .i64 r.inp, .int .i64 r.st, a, b]))
   simp only [ak] at hU
   rw [hU]
   first
   | (have g9 := lF (X := .vars 29 [.str [], .nils, .nils, .int .i64 0, .int .i64 0, .nils, .nils]) (R := 67) (M := 27) (S := 45) (I := 3) (r := r) (a := a) (b := b) (U := U) (w := w) hbd
      obtain ⟨hE, hF⟩ := g9
      rw [hE, hF]; all_goals exact ⟨rfl, rfl⟩)
   | (have g9 := ia (X := .vars 29 [.str [], .nils, .nils, .int .i64 0, .int .i64 0, .nils, .nils]) (R := 67) (M := 27) (S := 45) (I := 3) (r := r) (a := a) (b := b) (U := U) (w := w) hgd (by omega) hnb
      obtain ⟨hE, hF⟩ := g9
      rw [hE, hF]; all_goals exact ⟨rfl, rfl⟩)
   | (have g9 := iu (X := .vars 29 [.str [], .nils, .nils, .int .i64 0, .int .i64 0, .nils, .nils]) (R := 67) (M := 27) (S := 45) (I := 3) (r := r) (a := a) (b := b) (U := U) (w := w) hgd (by omega) hnb
      obtain ⟨hE, hF⟩ := g9
      rw [hE, hF]; all_goals exact ⟨rfl, rfl⟩)
   | (have g9 := lA (X := .vars 29 [.str [], .nils, .nils, .int .i64 0, .int .i64 0, .nils, .nils]) (R := 67) (M := 27) (S := 45) (I := 3) (r := r) (a := a) (b := b) (U := U) (w := w) hgd (by omega)
      obtain ⟨hE, hF⟩ := g9
      rw [hE, hF]; all_goals exact ⟨rfl, rfl⟩)
   | (have g9 := lE (X := .vars 29 [.str [], .nils, .nils, .int .i64 0, .int .i64 0, .nils, .nils]) (R := 67) (M := 27) (S := 45) (I := 3) (r := r) (a := a) (b := b) (U := U) (w := w) hgd (by omega)
      obtain ⟨hE, hF⟩ := g9
      rw [hE, hF]; all_goals exact ⟨rfl, rfl⟩)
   | (have g9 := lw (X := .vars 29 [.str [], .nils, .nils, .int .i64 0, .int .i64 0, .nils, .nils]) (R := 67) (M := 27) (S := 45) (I := 3) (r := r) (a := a) (b := b) (U := U) (w := w) hgd (by omega)
      obtain ⟨hE, hF⟩ := g9
      rw [hE, hF]; all_goals exact ⟨rfl, rfl⟩)
   | (have g9 := ig (X := .vars 29 [.str [], .nils, .nils, .int .i64 0, .int .i64 0, .nils, .nils]) (R := 67) (M := 27) (S := 45) (I := 3) (r := r) (a := a) (b := b) (U := U) (w := w) hgd (by omega) hmm
      obtain ⟨hE, hF⟩ := g9
      rw [hE, hF]; all_goals exact ⟨rfl, rfl⟩)
   | (have g9 := hZ (X := .vars 29 [.str [], .nils, .nils, .int .i64 0, .int .i64 0, .nils, .nils]) (R := 67) (M := 27) (S := 45) (I := 3) (r := r) (a := a) (b := b) (U := U) (w := w) hgd (by omega) hmm
      obtain ⟨hE, hF⟩ := g9
      have hid : idA r.sts (w.getD 1 []) = (pos r.sts (w.getD 1 []) : Int) := if_pos hmm
      rw [hE, hF]
      try rw [hid]
      all_goals exact ⟨rfl, rfl⟩)
  (try simp only [zB, reduceCtorEq] at hc39)
  have hmm : w.getD 1 [] ∈ r.sts := by simpa using hc39
  refine ay ?_
  apply k37; clear k37; refine kp [0, 1, 4, 5, 6, 7, 8, 45, 49, 50, 64, 79, 94, 121, 136] ?_
  refine ah hP hN rfl ?_
  iterate 7 (refine ae rfl fun _ k0 => ?_; simp only [zO, zT, acs, reduceCtorEq, V, O, Z, ad, ab, aa, Int.toNat_one]; (repeat refine an ?_); (try refine .inl ?_); apply k0; clear k0; simp only [zP, O])
  refine ag ?_
  apply k12; clear k12; refine kp [0, 1, 4, 5, 6, 7, 8, 45, 49, 50, 64, 79, 94, 121, 136] ?_
  refine af fun _ k41 => ?_
  refine ah hP hN rfl ?_
  (refine ae rfl fun _ k0 => ?_; simp only [zO, zT, acs, reduceCtorEq, V, O, Z, ad, ab, aa, Int.toNat_one]; (repeat refine an ?_); (try refine .inl ?_); apply k0; clear k0; simp only [zP, O])
  refine ag ?_
  apply k41; clear k41; refine kp [0, 1, 4, 5, 6, 7, 8, 45, 49, 50, 64, 79, 94, 121, 136] ?_
  refine ax ?_
  refine ⟨by first | exact .inl rfl | exact .inr rfl, _, rfl, ?_⟩; simp only [zP, V, O, Int.toNat_one]
  have hU := aH (dX (X := .vars 29 [.str [], .nils, .nils, .int .i64 0, .int .i64 0, .nils, .nils]) (R := 67) (M := 27) (S := 45) (I := 3) (r := r) (a := a) (b := b) (U := U) (w := w) (x := .vars 29 [.str [], .nils, .nils, .int .i64 0, .int .i64 0, .nils, .nils]) (y := .vars 67 [.int .i64 (r.rd : Int), .list .str r.sts, .str r.nm, .list .str r.ins, .list .str r.outs, .int .i64 r.inp, .int .i64 r.st, a, b]))
  simp only [ak] at hU
  rw [hU]
  first
  | (have g9 := lF (X := .vars 29 [.str [], .nils, .nils, .int .i64 0, .int .i64 0, .nils, .nils]) (R := 67) (M := 27) (S := 45) (I := 3) (r := r) (a := a) (b := b) (U := U) (w := w) hbd
     obtain ⟨hE, hF⟩ := g9
     rw [hE, hF]; all_goals exact ⟨rfl, rfl⟩)
  | (have g9 := ia (X := .vars 29 [.str [], .nils, .nils, .int .i64 0, .int .i64 0, .nils, .nils]) (R := 67) (M := 27) (S := 45) (I := 3) (r := r) (a := a) (b := b) (U := U) (w := w) hgd (by omega) hnb
     obtain ⟨hE, hF⟩ := g9
     rw [hE, hF]; all_goals exact ⟨rfl, rfl⟩)
  | (have g9 := iu (X := .vars 29 [.str [], .nils, .nils, .int .i64 0, .int .i64 0, .nils, .nils]) (R := 67) (M := 27) (S := 45) (I := 3) (r := r) (a := a) (b := b) (U := U) (w := w) hgd (by omega) hnb
     obtain ⟨hE, hF⟩ := g9
     rw [hE, hF]; all_goals exact ⟨rfl, rfl⟩)
  | (have g9 := lA (X := .vars 29 [.str [], .nils, .nils, .int .i64 0, .int .i64 0, .nils, .nils]) (R := 67) (M := 27) (S := 45) (I := 3) (r := r) (a := a) (b := b) (U := U) (w := w) hgd (by omega)
     obtain ⟨hE, hF⟩ := g9
     rw [hE, hF]; all_goals exact ⟨rfl, rfl⟩)
  | (have g9 := lE (X := .vars 29 [.str [], .nils, .nils, .int .i64 0, .int .i64 0, .nils, .nils]) (R := 67) (M := 27) (S := 45) (I := 3) (r := r) (a := a) (b := b) (U := U) (w := w) hgd (by omega)
     obtain ⟨hE, hF⟩ := g9
     rw [hE, hF]; all_goals exact ⟨rfl, rfl⟩)
  | (have g9 := lw (X := .vars 29 [.str [], .nils, .nils, .int .i64 0, .int .i64 0, .nils, .nils]) (R := 67) (M := 27) (S := 45) (I := 3) (r := r) (a := a) (b := b) (U := U) (w := w) hgd (by omega)
     obtain ⟨hE, hF⟩ := g9
     rw [hE, hF]; all_goals exact ⟨rfl, rfl⟩)
  | (have g9 := ig (X := .vars 29 [.str [], .nils, .nils, .int .i64 0, .int .i64 0, .nils, .nils]) (R := 67) (M := 27) (S := 45) (I := 3) (r := r) (a := a) (b := b) (U := U) (w := w) hgd (by omega) hmm
     obtain ⟨hE, hF⟩ := g9
     rw [hE, hF]; all_goals exact ⟨rfl, rfl⟩)
  | (have g9 := hZ (X := .vars 29 [.str [], .nils, .nils, .int .i64 0, .int .i64 0, .nils, .nils]) (R := 67) (M := 27) (S := 45) (I := 3) (r := r) (a := a) (b := b) (U := U) (w := w) hgd (by omega) hmm
     obtain ⟨hE, hF⟩ := g9
     have hid : idA r.sts (w.getD 1 []) = (pos r.sts (w.getD 1 []) : Int) := if_pos hmm
     rw [hE, hF]
     try rw [hid]
     all_goals exact ⟨rfl, rfl⟩)
 · exfalso; (try simp only [zB, reduceCtorEq] at hc35); all_goals (first | (cases hc35; done) | omega | (simp at hc35; done) | (simp_all; done))
set_option maxHeartbeats 1000000 in
theorem tk (r : RS) (w : List Bs) (hk : ROK r) (hl : w.length ≤ 1000000) : dI Tryz.prog (FT (.vars 29 [.str [], .nils, .nils, .int .i64 0, .int .i64 0, .nils, .nils]) 67 27 45 3 r []) 33 [.one (.ptr 1 0 0 0), .one (.list .str w)] { av := .one (.int .i64 (br r w).2), upd := eM (FT (.vars 29 [.str [], .nils, .nils, .int .i64 0, .int .i64 0, .nils, .nils]) 67 27 45 3 r []).length (FT (.vars 29 [.str [], .nils, .nils, .int .i64 0, .int .i64 0, .nils, .nils]) 67 27 45 3 (br r w).1 []), new := (FT (.vars 29 [.str [], .nils, .nils, .int .i64 0, .int .i64 0, .nils, .nils]) 67 27 45 3 (br r w).1 []).drop (FT (.vars 29 [.str [], .nils, .nils, .int .i64 0, .int .i64 0, .nils, .nils]) 67 27 45 3 r []).length, fp := List.range (FT (.vars 29 [.str [], .nils, .nils, .int .i64 0, .int .i64 0, .nils, .nils]) 67 27 45 3 r []).length } := by
 refine dQ _ _ Tryz.func33 rfl (by kernel_rfl) (Nat.le_of_ble_eq_true rfl) (by intro k hk; exact List.mem_range.2 hk) (fun C hP hN hB => ?_)
 replace hB : C.bL.length = (FT (.vars 29 [.str [], .nils, .nils, .int .i64 0, .int .i64 0, .nils, .nils]) 67 27 45 3 r []).length := by rw [hB]; skip
 replace hN : C.N = 113 := hN
 simp only [aX, O]
 refine af fun _ k1 => ?_
 refine ah hP hN rfl ?_
 (refine ae rfl fun _ k0 => ?_; simp only [zO, zT, acs, reduceCtorEq, V, O, Z, ad, ab, aa, Int.toNat_one, Int.reduceToNat]; (repeat refine an ?_); (try refine .inl ?_); apply k0; clear k0; simp only [zP, O])
 refine ag ?_
 apply k1; clear k1; refine kp [0, 1, 4] ?_
 refine af fun _ k2 => ?_
 refine af fun _ k3 => ?_
 refine ah hP hN rfl ?_
 iterate 3 (refine ae rfl fun _ k0 => ?_; simp only [zO, zT, acs, reduceCtorEq, V, O, Z, ad, ab, aa, Int.toNat_one, Int.reduceToNat]; (repeat refine an ?_); (try refine .inl ?_); apply k0; clear k0; simp only [zP, O])
 refine ag ?_
 apply k3; clear k3; refine kp [0, 1, 4, 16] ?_
 refine cd (fun hc4 => ?_) (fun hc4 => ?_)
 ·(try simp only [zB, reduceCtorEq] at hc4)
  refine af fun _ k5 => ?_
  refine ah hP hN rfl ?_
  (refine ae rfl fun _ k0 => ?_; simp only [zO, zT, acs, reduceCtorEq, V, O, Z, ad, ab, aa, Int.toNat_one, Int.reduceToNat]; (repeat refine an ?_); (try refine .inl ?_); apply k0; clear k0; simp only [zP, O])
  refine ag ?_
  apply k5; clear k5; refine kp [0, 1, 4, 16] ?_
  refine kp [4] ?_
  first
  | (refine dA (L1 := (FT (.vars 29 [.str [], .nils, .nils, .int .i64 0, .int .i64 0, .nils, .nils]) 67 27 45 3 r [])) (ee (B := []) [_]).symm (by rw [hB]; exact Nat.le_refl _) rfl (eJ fun _ => rfl) ?_)
  | (refine dA (L1 := (FT (.vars 29 [.str [], .nils, .nils, .int .i64 0, .int .i64 0, .nils, .nils]) 67 27 45 3 r2 [])) (ee (B := []) [_]).symm (by rw [hB, dB, dB]; omega) rfl (eJ fun _ => rfl) ?_)
  | skip
  refine ax ?_
  refine ⟨by first | exact .inl rfl | exact .inr rfl, _, rfl, ?_⟩; simp only [zP, V, O, Int.toNat_one, Int.reduceToNat]
  have hU := aH (jU (X := .vars 29 [.str [], .nils, .nils, .int .i64 0, .int .i64 0, .nils, .nils]) (R := 67) (M := 27) (S := 45) (I := 3) r w)
  rw [hU]
  first
  | (rw [hM (by assumption)]; all_goals exact ⟨rfl, rfl⟩)
  | (rw [i8 (by assumption) hbad]; all_goals exact ⟨rfl, rfl⟩)
  | (rw [ik (by assumption) hm0 hm3 hm1 hm2 hex]; all_goals exact ⟨rfl, rfl⟩)
  | (rw [gD (by assumption) hm0 hm3 hm1 hm2 (by omega)]; subst hr2; subst hr1; all_goals exact ⟨rfl, rfl⟩)
 (try simp only [zB, reduceCtorEq] at hc4)
 refine ay ?_
 apply k2; clear k2; refine kp [0, 1, 4, 16] ?_
 refine af fun _ k6 => ?_
 refine ah hP hN rfl ?_
 iterate 7 (refine ae rfl fun _ k0 => ?_; simp only [zO, zT, acs, reduceCtorEq, V, O, Z, ad, ab, aa, Int.toNat_one, Int.reduceToNat, j7, rfC, dB, aw, Nat.add_zero, jr]; (repeat refine an ?_); (try refine .inl ?_); apply k0; clear k0; simp only [zP, O, ee, wq, ar])
 refine ag ?_
 apply k6; clear k6; refine kp [0, 1, 4, 5, 16] ?_
 refine af fun _ k7 => ?_
 refine bZ hP hN Tryz.mixed rfl ?_
 iterate 4 (refine ae rfl fun _ k0 => ?_; simp only [zO, zT, acs, reduceCtorEq, V, O, Z, ad, ab, aa, Int.toNat_one, Int.reduceToNat, jr]; (repeat refine an ?_); (try refine .inl ?_); apply k0; clear k0; simp only [zP, O])
 refine ae rfl fun _ k0 => ?_
 refine aC (h := au (dy r.sts (w.getD 0 []))) rfl rfl (by first | exact rfl | (simp only [ev, zP, V, O]; exact rfl)) (by simp only [zV, acs, reduceCtorEq, V, O, Z, ad, ab, aa, Int.toNat_one, Int.reduceToNat, jr]) ?_
 apply k0; clear k0; simp only [zP, O]
 iterate 5 (refine ae rfl fun _ k0 => ?_; simp only [zO, zT, acs, reduceCtorEq, V, O, Z, ad, ab, aa, Int.toNat_one, Int.reduceToNat, jr]; (repeat refine an ?_); (try refine .inl ?_); apply k0; clear k0; simp only [zP, O])
 refine ag ?_
 refine ⟨by kernel_rfl, ?_⟩
 apply k7; clear k7; refine kp [0, 1, 4, 5, 6, 7, 16] ?_
 refine af fun _ k8 => ?_
 refine bZ hP hN Tryz.mixed rfl ?_
 iterate 8 (refine ae rfl fun _ k0 => ?_; simp only [zO, zT, acs, reduceCtorEq, V, O, Z, ad, ab, aa, Int.toNat_one, Int.reduceToNat, j7, rfC]; (repeat refine an ?_); (try refine .inl ?_); apply k0; clear k0; simp only [zP, O])
 refine ae rfl fun _ k0 => ?_
 refine aC (h := au (dy r.ins (w.getD 1 []))) rfl rfl (by first | exact rfl | (simp only [ev, zP, V, O]; exact rfl)) (by simp only [zV, acs, reduceCtorEq, V, O, Z, ad, ab, aa, Int.toNat_one, Int.reduceToNat, j7, rfC]) ?_
 apply k0; clear k0; simp only [zP, O]
 iterate 5 (refine ae rfl fun _ k0 => ?_; simp only [zO, zT, acs, reduceCtorEq, V, O, Z, ad, ab, aa, Int.toNat_one, Int.reduceToNat, j7, rfC]; (repeat refine an ?_); (try refine .inl ?_); apply k0; clear k0; simp only [zP, O])
 refine ag ?_
 refine ⟨by kernel_rfl, ?_⟩
 apply k8; clear k8; refine kp [0, 1, 4, 5, 6, 7, 8, 9, 16] ?_
 refine af fun _ k9 => ?_
 refine bZ hP hN Tryz.mixed rfl ?_
 iterate 8 (refine ae rfl fun _ k0 => ?_; simp only [zO, zT, acs, reduceCtorEq, V, O, Z, ad, ab, aa, Int.toNat_one, Int.reduceToNat, j7, rfC]; (repeat refine an ?_); (try refine .inl ?_); apply k0; clear k0; simp only [zP, O])
 refine ae rfl fun _ k0 => ?_
 refine aC (h := au (dy r.outs (w.getD 2 []))) rfl rfl (by first | exact rfl | (simp only [ev, zP, V, O]; exact rfl)) (by simp only [zV, acs, reduceCtorEq, V, O, Z, ad, ab, aa, Int.toNat_one, Int.reduceToNat, j7, rfC]) ?_
 apply k0; clear k0; simp only [zP, O]
 iterate 5 (refine ae rfl fun _ k0 => ?_; simp only [zO, zT, acs, reduceCtorEq, V, O, Z, ad, ab, aa, Int.toNat_one, Int.reduceToNat, j7, rfC]; (repeat refine an ?_); (try refine .inl ?_); apply k0; clear k0; simp only [zP, O])
 refine ag ?_
 refine ⟨by kernel_rfl, ?_⟩
 apply k9; clear k9; refine kp [0, 1, 4, 5, 6, 7, 8, 9, 10, 11, 16] ?_
 refine af fun _ k10 => ?_
 refine bZ hP hN Tryz.mixed rfl ?_
 iterate 4 (refine ae rfl fun _ k0 => ?_; simp only [zO, zT, acs, reduceCtorEq, V, O, Z, ad, ab, aa, Int.toNat_one, Int.reduceToNat, jr]; (repeat refine an ?_); (try refine .inl ?_); apply k0; clear k0; simp only [zP, O])
 refine ae rfl fun _ k0 => ?_
 refine aC (h := au (dy r.sts (w.getD 3 []))) rfl rfl (by first | exact rfl | (simp only [ev, zP, V, O]; exact rfl)) (by simp only [zV, acs, reduceCtorEq, V, O, Z, ad, ab, aa, Int.toNat_one, Int.reduceToNat, jr]) ?_
 apply k0; clear k0; simp only [zP, O]
 iterate 5 (refine ae rfl fun _ k0 => ?_; simp only [zO, zT, acs, reduceCtorEq, V, O, Z, ad, ab, aa, Int.toNat_one, Int.reduceToNat, jr]; (repeat refine an ?_); (try refine .inl ?_); apply k0; clear k0; simp only [zP, O])
 refine ag ?_
 refine ⟨by kernel_rfl, ?_⟩
 apply k10; clear k10; refine kp [0, 1, 4, 5, 6, 7, 8, 9, 10, 11, 12, 13, 16] ?_
 refine af fun _ k11 => ?_
 refine af fun _ k12 => ?_
 refine ah hP hN rfl ?_
 iterate 3 (refine ae rfl fun _ k0 => ?_; simp only [zO, zT, acs, reduceCtorEq, V, O, Z, ad, ab, aa, Int.toNat_one, Int.reduceToNat]; (repeat refine an ?_); (try refine .inl ?_); apply k0; clear k0; simp only [zP, O])
 refine' aA (want := false) 2 rfl (m := 64) (by simp only [zP, V, O]; exact rfl) (by kernel_rfl) rfl rfl rfl rfl rfl (fun hg13 => ?a13) ?b13 ?c13
 case a13 =>
  have hq13 := hg13; (try simp only [zB, reduceCtorEq] at hg13); simp only [zE]
  iterate 2 (refine aQ rfl fun _ k0 => ?_; simp only [zO, zT, acs, reduceCtorEq, V, O, Z, ad, ab, aa, Int.toNat_one, Int.reduceToNat]; (repeat refine an ?_); (try refine .inl ?_); apply k0; clear k0; simp only [zP, O])
  (refine ae rfl fun _ k0 => ?_; simp only [zO, zT, acs, reduceCtorEq, V, O, Z, ad, ab, aa, Int.toNat_one, Int.reduceToNat]; (repeat refine an ?_); (try refine .inl ?_); apply k0; clear k0; simp only [zP, O])
  refine ag ?_
  refine ⟨by simp only [zP, V, O]; exact rfl, rfl, ?_, rfl⟩; (repeat refine az rfl ?_); exact aP (by exact rfl) hq13
 case b13 => exact bf
 simp only [aK, aF]
 (refine ae rfl fun _ k0 => ?_; simp only [zO, zT, acs, reduceCtorEq, V, O, Z, ad, ab, aa, Int.toNat_one, Int.reduceToNat]; (repeat refine an ?_); (try refine .inl ?_); apply k0; clear k0; simp only [zP, O])
 refine' aA (want := false) 2 rfl (m := 68) (by simp only [zP, V, O]; exact rfl) (by kernel_rfl) rfl rfl rfl rfl rfl (fun hg14 => ?a14) ?b14 ?c14
 case a14 =>
  have hq14 := hg14; (try simp only [zB, reduceCtorEq] at hg14); simp only [zE]
  iterate 2 (refine aQ rfl fun _ k0 => ?_; simp only [zO, zT, acs, reduceCtorEq, V, O, Z, ad, ab, aa, Int.toNat_one, Int.reduceToNat]; (repeat refine an ?_); (try refine .inl ?_); apply k0; clear k0; simp only [zP, O])
  (refine ae rfl fun _ k0 => ?_; simp only [zO, zT, acs, reduceCtorEq, V, O, Z, ad, ab, aa, Int.toNat_one, Int.reduceToNat]; (repeat refine an ?_); (try refine .inl ?_); apply k0; clear k0; simp only [zP, O])
  refine ag ?_
  refine ⟨by simp only [zP, V, O]; exact rfl, rfl, ?_, rfl⟩; (repeat refine az rfl ?_); exact aP (by exact rfl) hq14
 case b14 => exact bf
 simp only [aK, aF]
 (refine ae rfl fun _ k0 => ?_; simp only [zO, zT, acs, reduceCtorEq, V, O, Z, ad, ab, aa, Int.toNat_one, Int.reduceToNat]; (repeat refine an ?_); (try refine .inl ?_); apply k0; clear k0; simp only [zP, O])
 refine' aA (want := false) 2 rfl (m := 72) (by simp only [zP, V, O]; exact rfl) (by kernel_rfl) rfl rfl rfl rfl rfl (fun hg15 => ?a15) ?b15 ?c15
 case a15 =>
  have hq15 := hg15; (try simp only [zB, reduceCtorEq] at hg15); simp only [zE]
  iterate 2 (refine aQ rfl fun _ k0 => ?_; simp only [zO, zT, acs, reduceCtorEq, V, O, Z, ad, ab, aa, Int.toNat_one, Int.reduceToNat]; (repeat refine an ?_); (try refine .inl ?_); apply k0; clear k0; simp only [zP, O])
  (refine ae rfl fun _ k0 => ?_; simp only [zO, zT, acs, reduceCtorEq, V, O, Z, ad, ab, aa, Int.toNat_one, Int.reduceToNat]; (repeat refine an ?_); (try refine .inl ?_); apply k0; clear k0; simp only [zP, O])
  refine ag ?_
  refine ⟨by simp only [zP, V, O]; exact rfl, rfl, ?_, rfl⟩; (repeat refine az rfl ?_); exact aP (by exact rfl) hq15
 case b15 => exact bf
 simp only [aK, aF]
 refine ag ?_
 apply k12; clear k12; refine kp [0, 1, 4, 5, 6, 7, 8, 9, 10, 11, 12, 13, 16, 75] ?_
 refine cd (fun hc16 => ?_) (fun hc16 => ?_)
 ·(try simp only [zB, reduceCtorEq] at hc16)
  have hbad := xv hc16
  refine af fun _ k17 => ?_
  refine ah hP hN rfl ?_
  (refine ae rfl fun _ k0 => ?_; simp only [zO, zT, acs, reduceCtorEq, V, O, Z, ad, ab, aa, Int.toNat_one, Int.reduceToNat]; (repeat refine an ?_); (try refine .inl ?_); apply k0; clear k0; simp only [zP, O])
  refine ag ?_
  apply k17; clear k17; refine kp [0, 1, 4, 5, 6, 7, 8, 9, 10, 11, 12, 13, 16, 75] ?_
  refine kp [4] ?_
  first
  | (refine dA (L1 := (FT (.vars 29 [.str [], .nils, .nils, .int .i64 0, .int .i64 0, .nils, .nils]) 67 27 45 3 r [])) (ee (B := []) [_]).symm (by rw [hB]; exact Nat.le_refl _) rfl (eJ fun _ => rfl) ?_)
  | (refine dA (L1 := (FT (.vars 29 [.str [], .nils, .nils, .int .i64 0, .int .i64 0, .nils, .nils]) 67 27 45 3 r2 [])) (ee (B := []) [_]).symm (by rw [hB, dB, dB]; omega) rfl (eJ fun _ => rfl) ?_)
  | skip
  refine ax ?_
  refine ⟨by first | exact .inl rfl | exact .inr rfl, _, rfl, ?_⟩; simp only [zP, V, O, Int.toNat_one, Int.reduceToNat]
  have hU := aH (jU (X := .vars 29 [.str [], .nils, .nils, .int .i64 0, .int .i64 0, .nils, .nils]) (R := 67) (M := 27) (S := 45) (I := 3) r w)
  rw [hU]
  first
  | (rw [hM (by assumption)]; all_goals exact ⟨rfl, rfl⟩)
  | (rw [i8 (by assumption) hbad]; all_goals exact ⟨rfl, rfl⟩)
  | (rw [ik (by assumption) hm0 hm3 hm1 hm2 hex]; all_goals exact ⟨rfl, rfl⟩)
  | (rw [gD (by assumption) hm0 hm3 hm1 hm2 (by omega)]; subst hr2; subst hr1; all_goals exact ⟨rfl, rfl⟩)
 (try simp only [zB, reduceCtorEq] at hc16)
 have hgd := hc16
 obtain ⟨⟨⟨hm0, hm1⟩, hm2⟩, hm3⟩ := hgd
 have hp0 := eG hm0; have hp1 := eG hm1; have hp2 := eG hm2; have hp3 := eG hm3
 have hnl := hk.nl; have hol2 := hk.ol; have hrl := hk.rl (pos r.sts (w.getD 0 [])) (by omega); have hql := hk.ql (pos r.sts (w.getD 0 [])) (by omega)
 have i0 : idA r.sts (w.getD 0 []) = (pos r.sts (w.getD 0 []) : Int) := if_pos hm0
 have i1 : idA r.ins (w.getD 1 []) = (pos r.ins (w.getD 1 []) : Int) := if_pos hm1
 have i2 : idA r.outs (w.getD 2 []) = (pos r.outs (w.getD 2 []) : Int) := if_pos hm2
 have i3 : idA r.sts (w.getD 3 []) = (pos r.sts (w.getD 3 []) : Int) := if_pos hm3
 refine ay ?_
 apply k11; clear k11; refine kp [0, 1, 4, 5, 6, 7, 8, 9, 10, 11, 12, 13, 16, 75] ?_
 refine af fun _ k18 => ?_
 refine af fun _ k19 => ?_
 rw [i0, i1, i2, i3]
 have hc1 : (cP 6 r.ins.length r.nx.length).getD (pos r.sts (w.getD 0 [])) .junk = .row (6 + 4 * pos r.sts (w.getD 0 [])) r.ins.length := oA (by omega)
 have hl2 := wK (X := .vars 29 [.str [], .nils, .nils, .int .i64 0, .int .i64 0, .nils, .nils]) (R := 67) (M := 27) (S := 45) (I := 3) (B := [.vars 24 [.list .str r.sts]]) (r := r) (s := pos r.sts (w.getD 0 [])) (by omega)
 refine ah hP hN rfl ?_
 iterate 13 (refine ae rfl fun _ k0 => ?_; simp only [zO, zT, acs, reduceCtorEq, V, O, Z, ad, ab, aa, Int.toNat_one, Int.reduceToNat, j7, rfC, vp, hc1, hl2, aN, Nat.div_one, Nat.mul_one, Nat.add_zero, da]; (repeat refine an ?_); (try refine .inl ?_); apply k0; clear k0; simp only [zP, O])
 refine ag ?_
 apply k19; clear k19; refine kp [0, 1, 4, 5, 6, 7, 8, 9, 10, 11, 12, 13, 16, 75, 88] ?_
 refine cd (fun hc20 => ?_) (fun hc20 => ?_)
 ·(try simp only [zB, reduceCtorEq] at hc20)
  have hex := hc20
  refine af fun _ k21 => ?_
  refine ah hP hN rfl ?_
  (refine ae rfl fun _ k0 => ?_; simp only [zO, zT, acs, reduceCtorEq, V, O, Z, ad, ab, aa, Int.toNat_one, Int.reduceToNat]; (repeat refine an ?_); (try refine .inl ?_); apply k0; clear k0; simp only [zP, O])
  refine ag ?_
  apply k21; clear k21; refine kp [0, 1, 4, 5, 6, 7, 8, 9, 10, 11, 12, 13, 16, 75, 88] ?_
  refine kp [4] ?_
  first
  | (refine dA (L1 := (FT (.vars 29 [.str [], .nils, .nils, .int .i64 0, .int .i64 0, .nils, .nils]) 67 27 45 3 r [])) (ee (B := []) [_]).symm (by rw [hB]; exact Nat.le_refl _) rfl (eJ fun _ => rfl) ?_)
  | (refine dA (L1 := (FT (.vars 29 [.str [], .nils, .nils, .int .i64 0, .int .i64 0, .nils, .nils]) 67 27 45 3 r2 [])) (ee (B := []) [_]).symm (by rw [hB, dB, dB]; omega) rfl (eJ fun _ => rfl) ?_)
  | skip
  refine ax ?_
  refine ⟨by first | exact .inl rfl | exact .inr rfl, _, rfl, ?_⟩; simp only [zP, V, O, Int.toNat_one, Int.reduceToNat]
  have hU := aH (jU (X := .vars 29 [.str [], .nils, .nils, .int .i64 0, .int .i64 0, .nils, .nils]) (R := 67) (M := 27) (S := 45) (I := 3) r w)
  rw [hU]
  first
  | (rw [hM (by assumption)]; all_goals exact ⟨rfl, rfl⟩)
  | (rw [i8 (by assumption) hbad]; all_goals exact ⟨rfl, rfl⟩)
  | (rw [ik (by assumption) hm0 hm3 hm1 hm2 hex]; all_goals exact ⟨rfl, rfl⟩)
  | (rw [gD (by assumption) hm0 hm3 hm1 hm2 (by omega)]; subst hr2; subst hr1; all_goals exact ⟨rfl, rfl⟩)
 (try simp only [zB, reduceCtorEq] at hc20)
 have hnx := hc20
 refine ay ?_
 apply k18; clear k18; refine kp [0, 1, 4, 5, 6, 7, 8, 9, 10, 11, 12, 13, 16, 75, 88] ?_
 refine af fun _ k22 => ?_
 have hs2 := x1 (X := .vars 29 [.str [], .nils, .nils, .int .i64 0, .int .i64 0, .nils, .nils]) (R := 67) (M := 27) (S := 45) (I := 3) (B := [.vars 24 [.list .str r.sts]]) (r := r) (s := pos r.sts (w.getD 0 [])) ((r.nx.getD (pos r.sts (w.getD 0 [])) []).set (pos r.ins (w.getD 1 [])) (pos r.sts (w.getD 3 []) : Int)) (by omega)
 obtain ⟨r1, hr1⟩ : ∃ r1, { r with nx := r.nx.set (pos r.sts (w.getD 0 [])) ((r.nx.getD (pos r.sts (w.getD 0 [])) []).set (pos r.ins (w.getD 1 [])) (pos r.sts (w.getD 3 []) : Int)) } = r1 := ⟨_, rfl⟩
 rw [hr1] at hs2
 have hn1 : r1.nx.length = r.nx.length := by rw [← hr1]; simp
 have ho1 : r1.ot = r.ot := by rw [← hr1]
 have hi1 : r1.ins = r.ins := by rw [← hr1]
 refine ah hP hN rfl ?_
 iterate 13 (refine ae rfl fun _ k0 => ?_; simp only [zO, zT, acs, reduceCtorEq, V, O, Z, ad, ab, aa, Int.toNat_one, Int.reduceToNat, j7, rfC, vp, hc1, hl2, aN, Nat.div_one, Nat.mul_one, Nat.add_zero, da]; (repeat refine an ?_); (try refine .inl ?_); apply k0; clear k0; simp only [zP, O, hs2])
 refine ag ?_
 apply k22; clear k22; refine kp [0, 1, 4, 5, 6, 7, 8, 9, 10, 11, 12, 13, 16, 75, 88] ?_
 refine af fun _ k23 => ?_
 have hc4 : (cP 7 r1.ins.length r1.nx.length).getD (pos r.sts (w.getD 0 [])) .junk = .row (7 + 4 * pos r.sts (w.getD 0 [])) r1.ins.length := oA (by omega)
 have hl4 := wO (X := .vars 29 [.str [], .nils, .nils, .int .i64 0, .int .i64 0, .nils, .nils]) (R := 67) (M := 27) (S := 45) (I := 3) (B := [.vars 24 [.list .str r.sts]]) (r := r1) (s := pos r.sts (w.getD 0 [])) (by omega)
 have hs4 := x2 (X := .vars 29 [.str [], .nils, .nils, .int .i64 0, .int .i64 0, .nils, .nils]) (R := 67) (M := 27) (S := 45) (I := 3) (B := [.vars 24 [.list .str r.sts]]) (r := r1) (s := pos r.sts (w.getD 0 [])) ((r1.ot.getD (pos r.sts (w.getD 0 [])) []).set (pos r.ins (w.getD 1 [])) (pos r.outs (w.getD 2 []) : Int)) (by omega) (by rw [ho1]; omega)
 have hq1 : (r1.ot.getD (pos r.sts (w.getD 0 [])) []).length = r.ins.length := by rw [ho1]; exact hql
 obtain ⟨r2, hr2⟩ : ∃ r2, { r1 with ot := r1.ot.set (pos r.sts (w.getD 0 [])) ((r1.ot.getD (pos r.sts (w.getD 0 [])) []).set (pos r.ins (w.getD 1 [])) (pos r.outs (w.getD 2 []) : Int)) } = r2 := ⟨_, rfl⟩
 rw [hr2] at hs4
 have hn2 : r2.nx.length = r.nx.length := by rw [← hr2]; exact hn1
 refine ah hP hN rfl ?_
 iterate 13 (refine ae rfl fun _ k0 => ?_; simp only [zO, zT, acs, reduceCtorEq, V, O, Z, ad, ab, aa, Int.toNat_one, Int.reduceToNat, j7, rfC, wS, hc4, hl4, aN, Nat.div_one, Nat.mul_one, Nat.add_zero, da]; (repeat refine an ?_); (try refine .inl ?_); apply k0; clear k0; simp only [zP, O, hs4])
 refine ag ?_
 apply k23; clear k23; refine kp [0, 1, 4, 5, 6, 7, 8, 9, 10, 11, 12, 13, 16, 75, 88] ?_
 refine af fun _ k24 => ?_
 refine ah hP hN rfl ?_
 (refine ae rfl fun _ k0 => ?_; simp only [zO, zT, acs, reduceCtorEq, V, O, Z, ad, ab, aa, Int.toNat_one, Int.reduceToNat]; (repeat refine an ?_); (try refine .inl ?_); apply k0; clear k0; simp only [zP, O])
 refine ag ?_
 apply k24; clear k24; refine kp [0, 1, 4, 5, 6, 7, 8, 9, 10, 11, 12, 13, 16, 75, 88] ?_
 refine kp [4] ?_
 first
 | (refine dA (L1 := (FT (.vars 29 [.str [], .nils, .nils, .int .i64 0, .int .i64 0, .nils, .nils]) 67 27 45 3 r [])) (ee (B := []) [_]).symm (by rw [hB]; exact Nat.le_refl _) rfl (eJ fun _ => rfl) ?_)
 | (refine dA (L1 := (FT (.vars 29 [.str [], .nils, .nils, .int .i64 0, .int .i64 0, .nils, .nils]) 67 27 45 3 r2 [])) (ee (B := []) [_]).symm (by rw [hB, dB, dB]; omega) rfl (eJ fun _ => rfl) ?_)
 | skip
 refine ax ?_
 refine ⟨by first | exact .inl rfl | exact .inr rfl, _, rfl, ?_⟩; simp only [zP, V, O, Int.toNat_one, Int.reduceToNat]
 have hU := aH (jU (X := .vars 29 [.str [], .nils, .nils, .int .i64 0, .int .i64 0, .nils, .nils]) (R := 67) (M := 27) (S := 45) (I := 3) r w)
 rw [hU]
 first
 | (rw [hM (by assumption)]; all_goals exact ⟨rfl, rfl⟩)
 | (rw [i8 (by assumption) hbad]; all_goals exact ⟨rfl, rfl⟩)
 | (rw [ik (by assumption) hm0 hm3 hm1 hm2 hex]; all_goals exact ⟨rfl, rfl⟩)
 | (rw [gD (by assumption) hm0 hm3 hm1 hm2 (by omega)]; subst hr2; subst hr1; all_goals exact ⟨rfl, rfl⟩)
theorem rB (r : RS) (w : List Bs) (hl : w.length ≤ 1000000) (h0 : 0 < w.length) (hr : r.rd < 5) (hi : r.rd = 3 → r.ins.length ≤ 1000000) (hn : ∀ k, k < w.length → (w.getD k []).length ≤ 1048576) : dI Tryz.prog (SF (.vars 29 [.str [], .nils, .nils, .int .i64 0, .int .i64 0, .nils, .nils]) 67 27 45 3 r) 32 [.one (.ptr 1 0 0 0), .one (.list .str w)] { av := .one (.int .i64 (aU r w).2), upd := eM (SF (.vars 29 [.str [], .nils, .nils, .int .i64 0, .int .i64 0, .nils, .nils]) 67 27 45 3 r).length (hdQ (.vars 29 [.str [], .nils, .nils, .int .i64 0, .int .i64 0, .nils, .nils]) 67 27 45 3 r (fA r) (fB r) (fT 27 45 3 r) w), new := (hdQ (.vars 29 [.str [], .nils, .nils, .int .i64 0, .int .i64 0, .nils, .nils]) 67 27 45 3 r (fA r) (fB r) (fT 27 45 3 r) w).drop (SF (.vars 29 [.str [], .nils, .nils, .int .i64 0, .int .i64 0, .nils, .nils]) 67 27 45 3 r).length, fp := List.range (SF (.vars 29 [.str [], .nils, .nils, .int .i64 0, .int .i64 0, .nils, .nils]) 67 27 45 3 r).length } :=
  rO r (fA r) (fB r) (fT 27 45 3 r) w hl h0 hr hi hn
theorem tT (r : RS) (w : List Bs) (ht : r.tb = true) (hk : ROK r) (hl : w.length ≤ 1000000) : dI Tryz.prog (SF (.vars 29 [.str [], .nils, .nils, .int .i64 0, .int .i64 0, .nils, .nils]) 67 27 45 3 r) 33 [.one (.ptr 1 0 0 0), .one (.list .str w)] { av := .one (.int .i64 (br r w).2), upd := eM (SF (.vars 29 [.str [], .nils, .nils, .int .i64 0, .int .i64 0, .nils, .nils]) 67 27 45 3 r).length (SF (.vars 29 [.str [], .nils, .nils, .int .i64 0, .int .i64 0, .nils, .nils]) 67 27 45 3 (br r w).1), new := (SF (.vars 29 [.str [], .nils, .nils, .int .i64 0, .int .i64 0, .nils, .nils]) 67 27 45 3 (br r w).1).drop (SF (.vars 29 [.str [], .nils, .nils, .int .i64 0, .int .i64 0, .nils, .nils]) 67 27 45 3 r).length, fp := List.range (SF (.vars 29 [.str [], .nils, .nils, .int .i64 0, .int .i64 0, .nils, .nils]) 67 27 45 3 r).length } := by
  rw [lc ht, lc (kf.trans ht)]
  exact tk r w hk hl
theorem wv (s : Bs) (hs : s.length ≤ 1048576) : bH Tryz.prog 30 [.one (.str s), .one (.int .u8 32)] (.one (.list .str (spl s))) := by
 refine aR Tryz.func30 rfl (by kernel_rfl) (Nat.le_of_ble_eq_true rfl) rfl fun C hP hN hB => ?_
 replace hN : C.N = 45 := hN
 simp only [aX, O]
 refine af fun _ k1 => ?_
 refine ah hP hN rfl ?_
 (refine ae rfl fun _ k0 => ?_; simp only [zO, zT, acs, reduceCtorEq, V, O, Z, ad, ab, aa]; (repeat refine an ?_); (try refine .inl ?_); apply k0; clear k0; simp only [zP, O])
 refine ag ?_
 apply k1; clear k1; refine kp [0, 1, 4] ?_
 refine af fun _ k2 => ?_
 refine ah hP hN rfl ?_
 (refine ae rfl fun _ k0 => ?_; simp only [zO, zT, acs, reduceCtorEq, V, O, Z, ad, ab, aa]; (repeat refine an ?_); refine Or.inr (Or.inl (k0 _ ?_)); clear k0; simp only [zP, O])
 (refine ae rfl fun _ k0 => ?_; simp only [zO, zT, acs, reduceCtorEq, V, O, Z, ad, ab, aa]; (repeat refine an ?_); (try refine .inl ?_); apply k0; clear k0; simp only [zP, O])
 refine ag ?_
 apply k2; clear k2; refine kp [0, 1, 4, 5] ?_
 refine af fun _ k3 => ?_
 refine ah hP hN rfl ?_
 (refine ae rfl fun _ k0 => ?_; simp only [zO, zT, acs, reduceCtorEq, V, O, Z, ad, ab, aa]; (repeat refine an ?_); (try refine .inl ?_); apply k0; clear k0; simp only [zP, O])
 refine ag ?_
 apply k3; clear k3; refine kp [0, 1, 4, 5, 6] ?_
 refine af fun _ k4 => ?_
 refine af fun _ k5 => ?_
 refine ah hP hN rfl ?_
 (refine ae rfl fun _ k0 => ?_; simp only [zO, zT, acs, reduceCtorEq, V, O, Z, ad, ab, aa]; (repeat refine an ?_); (try refine .inl ?_); apply k0; clear k0; simp only [zP, O])
 refine ag ?_
 apply k5; clear k5; refine kp [0, 1, 4, 5, 6, 7] ?_
 refine aE ?_
 refine bn (fun n6 s6 => ∃ (k : Nat) (v : Nat) (o : List Bs) (f : Nat), (k ≤ s.length + 1) ∧ (k ≤ s.length → o = (dO s k).1 ++ [[]] ∧ f = (dO s k).2) ∧ (k = s.length + 1 → o = spl s) ∧ n6 = s.length + 1 - k ∧ s6 = { env := [(0, .one (.str s)), (1, .one (.int .u8 32)), (4, .one .nils), (5, .one (.row 0 v)), (6, .one (.int .i64 (f : Int))), (7, .one (.int .i64 (k : Int)))], L := [.row .str 9 v o] }) ?_ ?_
 ·exact ⟨_, _, aB [0, 1, 4, 5, 6, 7], 0, 0, [[]], 0, by omega, fun _ => ⟨rfl, rfl⟩, fun h => by omega, rfl, rfl⟩
 rintro n6 s6 ⟨k, v, o, f, hk, ho, he, rfl, rfl⟩
 refine af fun _ k7 => ?_
 refine af fun _ k8 => ?_
 refine ah hP hN rfl ?_
 iterate 4 (refine ae rfl fun _ k0 => ?_; simp only [zO, zT, acs, reduceCtorEq, V, O, Z, ad, ab, aa]; (repeat refine an ?_); (try refine .inl ?_); apply k0; clear k0; simp only [zP, O])
 refine ag ?_
 apply k8; clear k8; refine kp [0, 1, 4, 5, 6, 7, 12] ?_
 refine cd (fun hc9 => ?_) (fun hc9 => ?_)
 ·(try simp only [zB, reduceCtorEq] at hc9)
  have hks : k ≤ s.length := by omega
  obtain ⟨rfl, rfl⟩ := ho hks
  have hcf := kD s k; have hcl := mT s k
  refine ay ?_
  apply k7; clear k7; refine kp [0, 1, 4, 5, 6, 7, 12] ?_
  refine af fun _ k10 => ?_
  refine aE ?_
  refine af fun _ k11 => ?_
  refine ah hP hN rfl ?_
  iterate 5 (refine ae rfl fun _ k0 => ?_; simp only [zO, zT, acs, reduceCtorEq, V, O, Z, ad, ab, aa]; (repeat refine an ?_); (try refine .inl ?_); apply k0; clear k0; simp only [zP, O])
  refine' aA (want := false) 5 rfl (m := 19) (by simp only [zP, V, O]; exact rfl) (by kernel_rfl) rfl rfl rfl rfl rfl (fun hg12 => ?a12) ?b12 ?c12
  case a12 =>
   have hq12 := hg12; (try simp only [zB, reduceCtorEq] at hg12); simp only [zE]
   iterate 5 (refine aQ rfl fun _ k0 => ?_; simp only [zO, zT, acs, reduceCtorEq, V, O, Z, ad, ab, aa]; (repeat refine an ?_); (try refine .inl ?_); apply k0; clear k0; simp only [zP, O])
   (refine ae rfl fun _ k0 => ?_; simp only [zO, zT, acs, reduceCtorEq, V, O, Z, ad, ab, aa]; (repeat refine an ?_); (try refine .inl ?_); apply k0; clear k0; simp only [zP, O])
   refine ag ?_
   refine ⟨by simp only [zP, V, O]; exact rfl, rfl, ?_, rfl⟩; (repeat refine az rfl ?_); exact aP (by exact rfl) hq12
  case b12 => exact bf
  simp only [aK, aF]
  refine ag ?_
  apply k11; clear k11; refine kp [0, 1, 4, 5, 6, 7, 12, 25] ?_
  refine cd (fun hc13 => ?_) (fun hc13 => ?_)
  ·(try simp only [zB, reduceCtorEq] at hc13)
   refine af fun _ k14 => ?_
   refine ah hP hN rfl ?_
   iterate 7 (refine ae rfl fun _ k0 => ?_; simp only [zO, zT, acs, reduceCtorEq, V, O, Z, ad, ab, aa, aq, ak, aw]; (repeat refine an ?_); (try refine .inl ?_); apply k0; clear k0; simp only [zP, O, oP, eY])
   (refine ae rfl fun _ k0 => ?_; simp only [zE, op1, ev, lkp, db, bB, cT, j4, iv, cm, cZ, fJ, Nat.div_one, dC, dh, Ty.size, b0, dite_true, fh, bI, dx, dU, dd, ef, ck, bnd, cO, zG, Ty.dflt, Nat.mul_one, ne_eq, not_false_eq_true, Int.natCast_one, Int.mul_one, d7, bp, bc, acs, reduceCtorEq, V, O, Z, ad, ab, aa, Tryz.el22, Tryz.td22, Tryz.td3, Tryz.td9, aq, ak, aw]; (repeat refine an ?_); (try refine .inl ?_); apply k0; clear k0; simp only [zP, O, oP, eY])
   iterate 2 (refine ae rfl fun _ k0 => ?_; simp only [zO, zT, acs, reduceCtorEq, V, O, Z, ad, ab, aa, aq, ak, aw]; (repeat refine an ?_); (try refine .inl ?_); apply k0; clear k0; simp only [zP, O, oP, eY])
   refine ag ?_
   apply k14; clear k14; refine kp [0, 1, 4, 5, 6, 7, 12, 25] ?_
   refine af fun _ k15 => ?_
   refine ah hP hN rfl ?_
   iterate 3 (refine ae rfl fun _ k0 => ?_; simp only [zO, zT, acs, reduceCtorEq, V, O, Z, ad, ab, aa]; (repeat refine an ?_); (try refine .inl ?_); apply k0; clear k0; simp only [zP, O])
   refine ag ?_
   apply k15; clear k15; refine kp [0, 1, 4, 5, 6, 7, 12, 25] ?_
   refine af fun _ k16 => ?_
   refine ah hP hN rfl ?_
   iterate 4 (refine ae rfl fun _ k0 => ?_; simp only [zO, zT, acs, reduceCtorEq, V, O, Z, ad, ab, aa]; (repeat refine an ?_); (try refine .inl ?_); apply k0; clear k0; simp only [zP, O])
   refine ag ?_
   apply k16; clear k16; refine kp [0, 1, 4, 5, 6, 7, 12, 25, 40] ?_
   refine cd (fun hc17 => ?_) (fun hc17 => ?_)
   ·(try simp only [zB, reduceCtorEq] at hc17)
    refine ah hP hN rfl ?_
    iterate 4 (refine ae rfl fun _ k0 => ?_; simp only [zO, zT, acs, reduceCtorEq, V, O, Z, ad, ab, aa, aq, ak, aw]; (repeat refine an ?_); (try refine .inl ?_); apply k0; clear k0; simp only [zP, O])
    refine ag ?_
    apply k10; clear k10; refine kp [0, 1, 4, 5, 6, 7, 12, 25, 40] ?_
    refine ah hP hN rfl ?_
    iterate 3 (refine ae rfl fun _ k0 => ?_; simp only [zO, zT, acs, reduceCtorEq, V, O, Z, ad, ab, aa]; (repeat refine an ?_); (try refine .inl ?_); apply k0; clear k0; simp only [zP, O])
    refine ag ?_
    first
    | (have h32 : bt s k = 32 := by unfold bt; omega
       refine ⟨_, _, ?_, aB [0, 1, 4, 5, 6, 7], k + 1, v + 1, _, k + 1, by omega, fun _ => ?_, fun h => by omega, rfl, rfl⟩
       · omega
       · rw [jD h32]; exact ⟨rfl, rfl⟩)
    | (refine ⟨_, _, ?_, aB [0, 1, 4, 5, 6, 7], k + 1, v, _, k + 1, by omega, fun h => by omega, fun _ => ?_, rfl, rfl⟩
       · omega
       · have e : k = s.length := by omega
         subst e; exact (mF s).symm)
    | (have h32 : ¬ bt s k = 32 := by unfold bt; omega
       refine ⟨_, _, ?_, aB [0, 1, 4, 5, 6, 7], k + 1, v, _, _, by omega, fun h => ?_, fun h => by omega, rfl, rfl⟩
       · omega
       · rw [mh h32]; exact ⟨rfl, rfl⟩)
   (try simp only [zB, reduceCtorEq] at hc17)
   refine ay ?_
   apply k10; clear k10; refine kp [0, 1, 4, 5, 6, 7, 12, 25, 40] ?_
   refine ah hP hN rfl ?_
   iterate 3 (refine ae rfl fun _ k0 => ?_; simp only [zO, zT, acs, reduceCtorEq, V, O, Z, ad, ab, aa]; (repeat refine an ?_); (try refine .inl ?_); apply k0; clear k0; simp only [zP, O])
   refine ag ?_
   first
   | (have h32 : bt s k = 32 := by unfold bt; omega
      refine ⟨_, _, ?_, aB [0, 1, 4, 5, 6, 7], k + 1, v + 1, _, k + 1, by omega, fun _ => ?_, fun h => by omega, rfl, rfl⟩
      · omega
      · rw [jD h32]; exact ⟨rfl, rfl⟩)
   | (refine ⟨_, _, ?_, aB [0, 1, 4, 5, 6, 7], k + 1, v, _, k + 1, by omega, fun h => by omega, fun _ => ?_, rfl, rfl⟩
      · omega
      · have e : k = s.length := by omega
        subst e; exact (mF s).symm)
   | (have h32 : ¬ bt s k = 32 := by unfold bt; omega
      refine ⟨_, _, ?_, aB [0, 1, 4, 5, 6, 7], k + 1, v, _, _, by omega, fun h => ?_, fun h => by omega, rfl, rfl⟩
      · omega
      · rw [mh h32]; exact ⟨rfl, rfl⟩)
  (try simp only [zB, reduceCtorEq] at hc13)
  refine ay ?_
  apply k10; clear k10; refine kp [0, 1, 4, 5, 6, 7, 12, 25] ?_
  refine ah hP hN rfl ?_
  iterate 3 (refine ae rfl fun _ k0 => ?_; simp only [zO, zT, acs, reduceCtorEq, V, O, Z, ad, ab, aa]; (repeat refine an ?_); (try refine .inl ?_); apply k0; clear k0; simp only [zP, O])
  refine ag ?_
  first
  | (have h32 : bt s k = 32 := by unfold bt; omega
     refine ⟨_, _, ?_, aB [0, 1, 4, 5, 6, 7], k + 1, v + 1, _, k + 1, by omega, fun _ => ?_, fun h => by omega, rfl, rfl⟩
     · omega
     · rw [jD h32]; exact ⟨rfl, rfl⟩)
  | (refine ⟨_, _, ?_, aB [0, 1, 4, 5, 6, 7], k + 1, v, _, k + 1, by omega, fun h => by omega, fun _ => ?_, rfl, rfl⟩
     · omega
     · have e : k = s.length := by omega
       subst e; exact (mF s).symm)
  | (have h32 : ¬ bt s k = 32 := by unfold bt; omega
     refine ⟨_, _, ?_, aB [0, 1, 4, 5, 6, 7], k + 1, v, _, _, by omega, fun h => ?_, fun h => by omega, rfl, rfl⟩
     · omega
     · rw [mh h32]; exact ⟨rfl, rfl⟩)
 (try simp only [zB, reduceCtorEq] at hc9)
 refine bh ?_
 apply k4; clear k4; refine kp [0, 1, 4, 5, 6, 7, 12] ?_
 refine af fun _ k18 => ?_
 refine ah hP hN rfl ?_
 iterate 2 (refine ae rfl fun _ k0 => ?_; simp only [zO, zT, acs, reduceCtorEq, V, O, Z, ad, ab, aa]; (repeat refine an ?_); (try refine .inl ?_); apply k0; clear k0; simp only [zP, O])
 refine ag ?_
 apply k18; clear k18; refine kp [0, 1, 4, 5, 6, 7, 12] ?_
 refine ax ?_
 refine ⟨nr, _, rfl, ?_⟩; simp only [zF, zP, V, O]
 refine VLE.of_eq ?_
 rw [he (by omega)]
theorem t0 (s : Bs) (hs : s.length ≤ 1048576) : bH Tryz.prog 31 [.one (.str s)] (.tup [.one (.list .str (woL s)), .one (.bool (decide ([] ∉ aG s)))]) := by
 refine aR Tryz.func31 rfl (by kernel_rfl) (Nat.le_of_ble_eq_true rfl) rfl fun C hP hN hB => ?_
 replace hN : C.N = 22 := hN
 simp only [aX, O]
 refine af fun _ k1 => ?_
 refine ah hP hN rfl ?_
 iterate 2 (refine ae rfl fun _ k0 => ?_; simp only [zO, zT, acs, reduceCtorEq, V, O, Z, ad, ab, aa]; (repeat refine an ?_); (try refine .inl ?_); apply k0; clear k0; simp only [zP, O])
 refine ag ?_
 apply k1; clear k1; refine kp [0, 2, 3] ?_
 refine af fun _ k2 => ?_
 refine af fun _ k3 => ?_
 refine ah hP hN rfl ?_
 iterate 2 (refine ae rfl fun _ k0 => ?_; simp only [zO, zT, acs, reduceCtorEq, V, O, Z, ad, ab, aa]; (repeat refine an ?_); (try refine .inl ?_); apply k0; clear k0; simp only [zP, O])
 refine ag ?_
 apply k3; clear k3; refine kp [0, 2, 3, 7] ?_
 refine cd (fun hc4 => ?_) (fun hc4 => ?_)
 ·(try simp only [zB, reduceCtorEq] at hc4)
  refine af fun _ k5 => ?_
  refine ah hP hN rfl ?_
  iterate 2 (refine ae rfl fun _ k0 => ?_; simp only [zO, zT, acs, reduceCtorEq, V, O, Z, ad, ab, aa]; (repeat refine an ?_); (try refine .inl ?_); apply k0; clear k0; simp only [zP, O])
  refine ag ?_
  apply k5; clear k5; refine kp [0, 2, 3, 7] ?_
  refine ax ?_
  refine ⟨nr, _, rfl, ?_⟩; simp only [zF, zP, V, O]
  first
  | (have g : [] ∉ aG s := by rw [gd ‹s = []›]; simp
     rw [oq g, decide_eq_true g, gd ‹s = []›]; exact ew)
  | (have g := (km (fun q hq2 => hq q hq2) (by omega) hme).2
     rw [uv g, decide_eq_false (fun h => h g)]; exact ew)
  | (have g := nj (q := []) (l := aG s) fun q hq2 => hq q (by omega)
     rw [oq g, decide_eq_true g]; exact VLE.of_eq rfl)
 (try simp only [zB, reduceCtorEq] at hc4)
 refine ay ?_
 apply k2; clear k2; refine kp [0, 2, 3, 7] ?_
 refine af fun _ k6 => ?_
 refine ah hP hN rfl ?_
 (refine ae rfl fun _ k0 => ?_; simp only [zO, zT, acs, reduceCtorEq, V, O, Z, ad, ab, aa]; (repeat refine an ?_); (try refine .inl ?_); apply k0; clear k0; simp only [zP, O])
 refine ae rfl fun _ k0 => ?_
 refine aC (h := au (wv s hs)) rfl rfl (by first | exact rfl | (simp only [ev, zP, V, O]; exact rfl)) (by simp only [zV, acs, reduceCtorEq, V, O, Z, ad, ab, aa]) ?_
 apply k0; clear k0; simp only [zP, O]
 (refine ae rfl fun _ k0 => ?_; simp only [zO, zT, acs, reduceCtorEq, V, O, Z, ad, ab, aa]; (repeat refine an ?_); (try refine .inl ?_); apply k0; clear k0; simp only [zP, O])
 refine ag ?_
 apply k6; clear k6; refine kp [0, 2, 3, 4, 7] ?_
 refine af fun _ k7 => ?_
 refine af fun _ k8 => ?_
 rw [← mQ ‹¬ s = []›]; have hpl := rt s
 refine ah hP hN rfl ?_
 (refine ae rfl fun _ k0 => ?_; simp only [zO, zT, acs, reduceCtorEq, V, O, Z, ad, ab, aa]; (repeat refine an ?_); (try refine .inl ?_); apply k0; clear k0; simp only [zP, O])
 refine ag ?_
 apply k8; clear k8; refine kp [0, 2, 3, 4, 5, 7] ?_
 refine aE ?_
 refine bn (fun n9 s9 => ∃ (k : Nat), (k ≤ (aG s).length) ∧ (∀ q, q < k → (aG s).getD q [] ≠ []) ∧ n9 = (aG s).length - k ∧ s9 = { env := [(2, .one .nils), (3, .one (.bool false)), (4, .one (.list .str (aG s))), (5, .one (.int .i64 (k : Int)))], L := [] }) ?_ ?_
 ·exact ⟨_, _, aB [2, 3, 4, 5], 0, Nat.zero_le _, fun q hq => by omega, rfl, rfl⟩
 rintro n9 s9 ⟨k, hk, hq, rfl, rfl⟩
 refine af fun _ k10 => ?_
 refine af fun _ k11 => ?_
 refine ah hP hN rfl ?_
 iterate 4 (refine ae rfl fun _ k0 => ?_; simp only [zO, zT, acs, reduceCtorEq, V, O, Z, ad, ab, aa]; (repeat refine an ?_); (try refine .inl ?_); apply k0; clear k0; simp only [zP, O])
 refine ag ?_
 apply k11; clear k11; refine kp [2, 3, 4, 5, 13] ?_
 refine cd (fun hc12 => ?_) (fun hc12 => ?_)
 ·(try simp only [zB, reduceCtorEq] at hc12)
  refine ay ?_
  apply k10; clear k10; refine kp [2, 3, 4, 5, 13] ?_
  refine af fun _ k13 => ?_
  refine aE ?_
  refine af fun _ k14 => ?_
  refine ah hP hN rfl ?_
  iterate 5 (refine ae rfl fun _ k0 => ?_; simp only [zO, zT, acs, reduceCtorEq, V, O, Z, ad, ab, aa]; (repeat refine an ?_); (try refine .inl ?_); apply k0; clear k0; simp only [zP, O])
  refine ag ?_
  apply k14; clear k14; refine kp [2, 3, 4, 5, 13, 20] ?_
  refine cd (fun hc15 => ?_) (fun hc15 => ?_)
  ·(try simp only [zB, reduceCtorEq] at hc15)
   have hme : (aG s).getD k [] = [] := hc15
   refine af fun _ k16 => ?_
   refine ah hP hN rfl ?_
   iterate 2 (refine ae rfl fun _ k0 => ?_; simp only [zO, zT, acs, reduceCtorEq, V, O, Z, ad, ab, aa]; (repeat refine an ?_); (try refine .inl ?_); apply k0; clear k0; simp only [zP, O])
   refine ag ?_
   apply k16; clear k16; refine kp [2, 3, 4, 5, 13, 20] ?_
   refine ax ?_
   refine ⟨nr, _, rfl, ?_⟩; simp only [zF, zP, V, O]
   first
   | (have g : [] ∉ aG s := by rw [gd ‹s = []›]; simp
      rw [oq g, decide_eq_true g, gd ‹s = []›]; exact ew)
   | (have g := (km (fun q hq2 => hq q hq2) (by omega) hme).2
      rw [uv g, decide_eq_false (fun h => h g)]; exact ew)
   | (have g := nj (q := []) (l := aG s) fun q hq2 => hq q (by omega)
      rw [oq g, decide_eq_true g]; exact VLE.of_eq rfl)
  (try simp only [zB, reduceCtorEq] at hc15)
  have hne : (aG s).getD k [] ≠ [] := hc15
  refine ay ?_
  apply k13; clear k13; refine kp [2, 3, 4, 5, 13, 20] ?_
  refine ah hP hN rfl ?_
  iterate 3 (refine ae rfl fun _ k0 => ?_; simp only [zO, zT, acs, reduceCtorEq, V, O, Z, ad, ab, aa]; (repeat refine an ?_); (try refine .inl ?_); apply k0; clear k0; simp only [zP, O])
  refine ag ?_
  refine ⟨_, _, ?_, aB [2, 3, 4, 5], k + 1, by omega, fun q hq2 => ?_, rfl, rfl⟩
  · omega
  · by_cases e : q = k
    · rw [e]; exact hne
    · exact hq q (by omega)
 (try simp only [zB, reduceCtorEq] at hc12)
 refine bh ?_
 apply k7; clear k7; refine kp [2, 3, 4, 5, 13] ?_
 refine af fun _ k17 => ?_
 refine ah hP hN rfl ?_
 iterate 3 (refine ae rfl fun _ k0 => ?_; simp only [zO, zT, acs, reduceCtorEq, V, O, Z, ad, ab, aa]; (repeat refine an ?_); (try refine .inl ?_); apply k0; clear k0; simp only [zP, O])
 refine ag ?_
 apply k17; clear k17; refine kp [2, 3, 4, 5, 13] ?_
 refine ax ?_
 refine ⟨nr, _, rfl, ?_⟩; simp only [zF, zP, V, O]
 first
 | (have g : [] ∉ aG s := by rw [gd ‹s = []›]; simp
    rw [oq g, decide_eq_true g, gd ‹s = []›]; exact ew)
 | (have g := (km (fun q hq2 => hq q hq2) (by omega) hme).2
    rw [uv g, decide_eq_false (fun h => h g)]; exact ew)
 | (have g := nj (q := []) (l := aG s) fun q hq2 => hq q (by omega)
    rw [oq g, decide_eq_true g]; exact VLE.of_eq rfl)
theorem ut (l : Bs) (hl : ¬ l = []) (h : l.length ≤ 1048576) : bH Tryz.prog 31 [.one (.str l)] (.tup [.one (.list .str (if [] ∈ spB 32 l then [] else spB 32 l)), .one (.bool (decide ([] ∉ spB 32 l)))]) := by
  have g := t0 l h
  have e : aG l = spB 32 l := (mQ hl).trans (vn l)
  unfold woL at g
  rw [e] at g
  exact g
end Go.Proofs.YtmfkpljjhiglpaaGreatDoor
