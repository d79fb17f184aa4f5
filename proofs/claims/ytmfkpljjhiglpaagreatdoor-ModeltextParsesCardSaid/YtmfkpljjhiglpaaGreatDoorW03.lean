/- Contracts of functions of this seat, each out of a walk through its code, and plain facts on what they compute. Conditions: those that each theorem names. -/
import Derived.Test.YtmfkpljjhiglpaaGreatDoorW02
set_option linter.unusedSimpArgs false
set_option linter.unusedVariables false
set_option maxRecDepth 100000
namespace Go.Proofs.YtmfkpljjhiglpaaGreatDoor
open Go Go.AV
open Nat renaming reduceEqDiff → V, reduceAdd → O, reduceLeDiff → Z, reduceLT → ad, reduceMul → ab, reduceSub → aa
open List renaming set_cons_zero → bK, set_cons_succ → ba, getD_cons_zero → cM, length_append → aq, map_cons → aS, cons_append → am, map_nil → bM, length_cons → ak, nil_append → ar, take_succ_cons → bY, length_nil → aw, length_map → c0, length_replicate → aL, take_length → aD, mem_cons_self → aT, mem_cons_of_mem → aI
open Int renaming toNat_natCast → aN
set_option maxHeartbeats 1000000 in
theorem wt (r : RS) (a b : AC) (U : List AO) (w : List Bs) (hl : w.length ≤ 1000000) (h0 : 0 < w.length) (hr : r.rd < 5) (hi : r.rd = 3 → 1 ≤ r.ins.length ∧ r.ins.length ≤ 64) : dI Tryz.prog (.vars 60 [.str r.nm, .list .str r.ins, .list .str r.outs, .int .i64 r.inp, .int .i64 r.st, a, b, .list .str r.sts, .int .i64 (r.rd : Int), .int .i64 r.lf] :: U) 49 [.one (.ptr 0 0 0 0), .one (.list .str w)] { av := .one (.int .i64 (aU r w).2), upd := eM (U.length + 1) (fV 60 45 3 r a b U w), new := (fV 60 45 3 r a b U w).drop (U.length + 1), fp := List.range (U.length + 1) } := by
 refine dQ _ _ Tryz.func49 rfl (by kernel_rfl) (Nat.le_of_ble_eq_true rfl) (by intro k hk; exact List.mem_range.2 hk) (fun C hP hN hB => ?_)
 replace hB : C.bL.length = U.length + 1 := by rw [hB]; rfl
 replace hN : C.N = 114 := hN
 simp only [aX, O]
 refine af fun _ k1 => ?_
 refine ah hP hN rfl ?_
 (refine ae rfl fun _ k0 => ?_; simp only [zO, zT, acs, reduceCtorEq, V, O, Z, ad, ab, aa, Int.toNat_one]; (repeat refine an ?_); (try refine .inl ?_); apply k0; clear k0; simp only [zP, O])
 refine ag ?_
 apply k1; clear k1; refine kp [0, 1, 4] ?_
 refine af fun _ k2 => ?_
 have hk4 : r.rd ≤ 4 := by omega
 have htk : [AC.str [109, 97, 99, 104, 105, 110, 101], AC.str [105, 110, 112, 117, 116, 115], AC.str [111, 117, 116, 112, 117, 116, 115], AC.str [115, 116, 97, 116, 101, 115], AC.str [115, 116, 97, 114, 116]][r.rd]? = some (AC.str (kwd r.rd)) := by rcases (show r.rd = 0 ∨ r.rd = 1 ∨ r.rd = 2 ∨ r.rd = 3 ∨ r.rd = 4 by omega) with e | e | e | e | e <;> rw [e] <;> rfl
 refine ah hP hN rfl ?_
 iterate 7 (refine ae rfl fun _ k0 => ?_; simp only [zO, zT, acs, reduceCtorEq, V, O, Z, ad, ab, aa, Int.toNat_one, htk]; (repeat refine an ?_); (try refine .inl ?_); apply k0; clear k0; simp only [zP, O])
 refine ag ?_
 apply k2; clear k2; refine kp [0, 1, 4, 5] ?_
 refine af fun _ k3 => ?_
 refine ah hP hN rfl ?_
 iterate 6 (refine ae rfl fun _ k0 => ?_; simp only [zO, zT, acs, reduceCtorEq, V, O, Z, ad, ab, aa, Int.toNat_one]; (repeat refine an ?_); (try refine .inl ?_); apply k0; clear k0; simp only [zP, O])
 refine' aA (want := false) 5 rfl (m := 18) (by simp only [zP, V, O]; exact rfl) (by kernel_rfl) rfl rfl rfl rfl rfl (fun hg4 => ?a4) ?b4 ?c4
 case a4 =>
  have hq4 := hg4; (try simp only [zB, reduceCtorEq] at hg4); simp only [zE]
  iterate 5 (refine aQ rfl fun _ k0 => ?_; simp only [zO, zT, acs, reduceCtorEq, V, O, Z, ad, ab, aa, Int.toNat_one]; (repeat refine an ?_); (try refine .inl ?_); apply k0; clear k0; simp only [zP, O])
  (refine ae rfl fun _ k0 => ?_; simp only [zO, zT, acs, reduceCtorEq, V, O, Z, ad, ab, aa, Int.toNat_one]; (repeat refine an ?_); (try refine .inl ?_); apply k0; clear k0; simp only [zP, O])
  refine ag ?_
  refine ⟨by simp only [zP, V, O]; exact rfl, rfl, ?_, rfl⟩; (repeat refine az rfl ?_); exact aP (by exact rfl) hq4
 case b4 => exact bf
 simp only [aK, aF]
 (refine ae rfl fun _ k0 => ?_; simp only [zO, zT, acs, reduceCtorEq, V, O, Z, ad, ab, aa, Int.toNat_one]; (repeat refine an ?_); (try refine .inl ?_); apply k0; clear k0; simp only [zP, O])
 refine ag ?_
 apply k3; clear k3; refine kp [0, 1, 4, 5, 6] ?_
 refine af fun _ k5 => ?_
 refine af fun _ k6 => ?_
 refine ah hP hN rfl ?_
 iterate 6 (refine ae rfl fun _ k0 => ?_; simp only [zO, zT, acs, reduceCtorEq, V, O, Z, ad, ab, aa, Int.toNat_one]; (repeat refine an ?_); (try refine .inl ?_); apply k0; clear k0; simp only [zP, O])
 refine' aA (want := false) 6 rfl (m := 30) (by simp only [zP, V, O]; exact rfl) (by kernel_rfl) rfl rfl rfl rfl rfl (fun hg7 => ?a7) ?b7 ?c7
 case a7 =>
  have hq7 := hg7; (try simp only [zB, reduceCtorEq] at hg7); simp only [zE]
  iterate 2 (refine aQ rfl fun _ k0 => ?_; simp only [zO, zT, acs, reduceCtorEq, V, O, Z, ad, ab, aa, Int.toNat_one]; (repeat refine an ?_); (try refine .inl ?_); apply k0; clear k0; simp only [zP, O])
  refine' aA (want := true) 3 rfl (m := 32) (by simp only [zP, V, O]; exact rfl) (by kernel_rfl) rfl rfl rfl rfl rfl (fun hg8 => ?a8) ?b8 ?c8
  case a8 =>
   have hq8 := hg8; (try simp only [zB, reduceCtorEq] at hg8); simp only [zE]
   iterate 4 (refine aQ rfl fun _ k0 => ?_; simp only [zO, zT, acs, reduceCtorEq, V, O, Z, ad, ab, aa, Int.toNat_one]; (repeat refine an ?_); (try refine .inl ?_); apply k0; clear k0; simp only [zP, O])
   refine ag ?_
   refine ⟨by simp only [zP, V, O]; exact rfl, rfl, ?_, rfl⟩; (repeat refine az rfl ?_); exact aP (by exact rfl) hq8
  case b8 => exact bf
  simp only [aK, aF]
  (refine ae rfl fun _ k0 => ?_; simp only [zO, zT, acs, reduceCtorEq, V, O, Z, ad, ab, aa, Int.toNat_one]; (repeat refine an ?_); (try refine .inl ?_); apply k0; clear k0; simp only [zP, O])
  refine ag ?_
  refine ⟨by simp only [zP, V, O]; exact rfl, rfl, ?_, rfl⟩; (repeat refine az rfl ?_); exact aP (by exact rfl) hq7
 case b7 => exact bf
 simp only [aK, aF]
 refine ag ?_
 apply k6; clear k6; refine kp [0, 1, 4, 5, 6, 37] ?_
 refine cd (fun hc9 => ?_) (fun hc9 => ?_)
 ·(try simp only [zB, reduceCtorEq] at hc9)
  refine af fun _ k10 => ?_
  refine ah hP hN rfl ?_
  (refine ae rfl fun _ k0 => ?_; simp only [zO, zT, acs, reduceCtorEq, V, O, Z, ad, ab, aa, Int.toNat_one]; (repeat refine an ?_); (try refine .inl ?_); apply k0; clear k0; simp only [zP, O])
  refine ag ?_
  apply k10; clear k10; refine kp [0, 1, 4, 5, 6, 37] ?_
  refine ax ?_
  refine ⟨by first | exact .inl rfl | exact .inr rfl, _, rfl, ?_⟩; simp only [zP, V, O, Int.toNat_one]
  have hU := aH (dg (R := 60) (S := 45) (I := 3) (r := r) (a := a) (b := b) (U := U) (w := w) (x := .vars 60 [.str r.nm, .list .str r.ins, .list .str r.outs, .int .i64 r.inp, .int .i64 r.st, a, b, .list .str r.sts, .int .i64 (r.rd : Int), .int .i64 r.lf]))
  have hV := aH (ct (R := 60) (S := 45) (I := 3) (r := r) (a := a) (b := b) (U := U) (l := w.drop 1) (x := .vars 60 [.str r.nm, .list .str r.ins, .list .str r.outs, .int .i64 r.inp, .int .i64 r.st, a, b, .list .str r.sts, .int .i64 (r.rd : Int), .int .i64 r.lf]))
  simp only [ak] at hU hV
  rw [hU]
  first
  | (obtain ⟨hE, hF⟩ := lD (R := 60) (S := 45) (I := 3) (a := a) (b := b) (U := U) hc9
     rw [hE, hF]; all_goals exact ⟨rfl, rfl⟩)
  | (have hn3 : ¬ (r.rd : Int) = 3 := by omega
     have hE := cV hc9
     first
     | rw [if_pos (by omega), if_neg (by rw [‹aY (w.getD 1 []) = false›]; decide)] at hE
     | rw [if_pos (by omega), if_pos (by assumption)] at hE
     | rw [if_neg (by omega), if_pos (by omega)] at hE
     | rw [if_neg (by omega), if_neg (by omega), if_pos (by omega)] at hE
     | rw [if_neg (by omega), if_neg (by omega), if_neg (by omega), if_neg (by omega), if_pos (show ixB r.sts (w.getD 1 []) < 0 by assumption)] at hE
     | rw [if_neg (by omega), if_neg (by omega), if_neg (by omega), if_neg (by omega), if_neg (show ¬ ixB r.sts (w.getD 1 []) < 0 by unfold ixB; omega)] at hE
     obtain ⟨hE, hF⟩ := iA (R := 60) (S := 45) (I := 3) (a := a) (b := b) (U := U) (by omega) hE
     rw [hE, hF]; all_goals exact ⟨rfl, rfl⟩)
  | (obtain ⟨hE, hF⟩ := ln (R := 60) (S := 45) (I := 3) (a := a) (b := b) (U := U) hc9 (by omega)
     rw [hE, hF, hV]; all_goals exact ⟨rfl, rfl⟩)
 (try simp only [zB, reduceCtorEq] at hc9)
 refine ay ?_
 apply k5; clear k5; refine kp [0, 1, 4, 5, 6, 37] ?_
 refine af fun _ k11 => ?_
 refine af fun _ k12 => ?_
 refine ah hP hN rfl ?_
 iterate 4 (refine ae rfl fun _ k0 => ?_; simp only [zO, zT, acs, reduceCtorEq, V, O, Z, ad, ab, aa, Int.toNat_one]; (repeat refine an ?_); (try refine .inl ?_); apply k0; clear k0; simp only [zP, O])
 refine ag ?_
 apply k12; clear k12; refine kp [0, 1, 4, 5, 6, 37, 41] ?_
 refine aE ?_
 refine af fun _ k13 => ?_
 refine ah hP hN rfl ?_
 iterate 2 (refine ae rfl fun _ k0 => ?_; simp only [zO, zT, acs, reduceCtorEq, V, O, Z, ad, ab, aa, Int.toNat_one]; (repeat refine an ?_); (try refine .inl ?_); apply k0; clear k0; simp only [zP, O])
 refine ag ?_
 apply k13; clear k13; refine kp [0, 1, 4, 5, 6, 37, 41, 42] ?_
 refine cd (fun hc14 => ?_) (fun hc14 => ?_)
 ·(try simp only [zB, reduceCtorEq] at hc14)
  refine af fun _ k15 => ?_
  refine ah hP hN rfl ?_
  iterate 8 (refine ae rfl fun _ k0 => ?_; simp only [zO, zT, acs, reduceCtorEq, V, O, Z, ad, ab, aa, Int.toNat_one]; (repeat refine an ?_); (try refine .inl ?_); apply k0; clear k0; simp only [zP, O])
  refine ag ?_
  apply k15; clear k15; refine kp [0, 1, 4, 5, 6, 37, 41, 42] ?_
  refine af fun _ k16 => ?_
  refine ah hP hN rfl ?_
  iterate 3 (refine ae rfl fun _ k0 => ?_; simp only [zO, zT, acs, reduceCtorEq, V, O, Z, ad, ab, aa, Int.toNat_one]; (repeat refine an ?_); (try refine .inl ?_); apply k0; clear k0; simp only [zP, O])
  refine ae rfl fun _ k0 => ?_
  refine aC (h := au (md (w.getD 1 []))) rfl rfl (by first | exact rfl | (simp only [ev, zP, V, O]; exact rfl)) (by simp only [zV, acs, reduceCtorEq, V, O, Z, ad, ab, aa, Int.toNat_one]) ?_
  apply k0; clear k0; simp only [zP, O]
  (refine ae rfl fun _ k0 => ?_; simp only [zO, zT, acs, reduceCtorEq, V, O, Z, ad, ab, aa, Int.toNat_one]; (repeat refine an ?_); (try refine .inl ?_); apply k0; clear k0; simp only [zP, O])
  refine ag ?_
  apply k16; clear k16; refine kp [0, 1, 4, 5, 6, 37, 41, 42, 55] ?_
  refine cd (fun hc17 => ?_) (fun hc17 => ?_)
  ·(try simp only [zB, reduceCtorEq] at hc17)
   refine af fun _ k18 => ?_
   refine ah hP hN rfl ?_
   (refine ae rfl fun _ k0 => ?_; simp only [zO, zT, acs, reduceCtorEq, V, O, Z, ad, ab, aa, Int.toNat_one]; (repeat refine an ?_); (try refine .inl ?_); apply k0; clear k0; simp only [zP, O])
   refine ag ?_
   apply k18; clear k18; refine kp [0, 1, 4, 5, 6, 37, 41, 42, 55] ?_
   refine ax ?_
   refine ⟨by first | exact .inl rfl | exact .inr rfl, _, rfl, ?_⟩; simp only [zP, V, O, Int.toNat_one]
   have hU := aH (dg (R := 60) (S := 45) (I := 3) (r := r) (a := a) (b := b) (U := U) (w := w) (x := .vars 60 [.str r.nm, .list .str r.ins, .list .str r.outs, .int .i64 r.inp, .int .i64 r.st, a, b, .list .str r.sts, .int .i64 (r.rd : Int), .int .i64 r.lf]))
   have hV := aH (ct (R := 60) (S := 45) (I := 3) (r := r) (a := a) (b := b) (U := U) (l := w.drop 1) (x := .vars 60 [.str r.nm, .list .str r.ins, .list .str r.outs, .int .i64 r.inp, .int .i64 r.st, a, b, .list .str r.sts, .int .i64 (r.rd : Int), .int .i64 r.lf]))
   simp only [ak] at hU hV
   rw [hU]
   first
   | (obtain ⟨hE, hF⟩ := lD (R := 60) (S := 45) (I := 3) (a := a) (b := b) (U := U) hc9
      rw [hE, hF]; all_goals exact ⟨rfl, rfl⟩)
   | (have hn3 : ¬ (r.rd : Int) = 3 := by omega
      have hE := cV hc9
      first
      | rw [if_pos (by omega), if_neg (by rw [‹aY (w.getD 1 []) = false›]; decide)] at hE
      | rw [if_pos (by omega), if_pos (by assumption)] at hE
      | rw [if_neg (by omega), if_pos (by omega)] at hE
      | rw [if_neg (by omega), if_neg (by omega), if_pos (by omega)] at hE
      | rw [if_neg (by omega), if_neg (by omega), if_neg (by omega), if_neg (by omega), if_pos (show ixB r.sts (w.getD 1 []) < 0 by assumption)] at hE
      | rw [if_neg (by omega), if_neg (by omega), if_neg (by omega), if_neg (by omega), if_neg (show ¬ ixB r.sts (w.getD 1 []) < 0 by unfold ixB; omega)] at hE
      obtain ⟨hE, hF⟩ := iA (R := 60) (S := 45) (I := 3) (a := a) (b := b) (U := U) (by omega) hE
      rw [hE, hF]; all_goals exact ⟨rfl, rfl⟩)
   | (obtain ⟨hE, hF⟩ := ln (R := 60) (S := 45) (I := 3) (a := a) (b := b) (U := U) hc9 (by omega)
      rw [hE, hF, hV]; all_goals exact ⟨rfl, rfl⟩)
  (try simp only [zB, reduceCtorEq] at hc17)
  refine ay ?_
  apply k11; clear k11; refine kp [0, 1, 4, 5, 6, 37, 41, 42, 55] ?_
  refine af fun _ k19 => ?_
  refine ah hP hN rfl ?_
  (refine ae rfl fun _ k0 => ?_; simp only [zO, zT, acs, reduceCtorEq, V, O, Z, ad, ab, aa, Int.toNat_one]; (repeat refine an ?_); (try refine .inl ?_); apply k0; clear k0; simp only [zP, O])
  refine ag ?_
  apply k19; clear k19; refine kp [0, 1, 4, 5, 6, 37, 41, 42, 55] ?_
  refine ax ?_
  refine ⟨by first | exact .inl rfl | exact .inr rfl, _, rfl, ?_⟩; simp only [zP, V, O, Int.toNat_one]
  have hU := aH (dg (R := 60) (S := 45) (I := 3) (r := r) (a := a) (b := b) (U := U) (w := w) (x := .vars 60 [.str r.nm, .list .str r.ins, .list .str r.outs, .int .i64 r.inp, .int .i64 r.st, a, b, .list .str r.sts, .int .i64 (r.rd : Int), .int .i64 r.lf]))
  have hV := aH (ct (R := 60) (S := 45) (I := 3) (r := r) (a := a) (b := b) (U := U) (l := w.drop 1) (x := .vars 60 [.str r.nm, .list .str r.ins, .list .str r.outs, .int .i64 r.inp, .int .i64 r.st, a, b, .list .str r.sts, .int .i64 (r.rd : Int), .int .i64 r.lf]))
  simp only [ak] at hU hV
  rw [hU]
  first
  | (obtain ⟨hE, hF⟩ := lD (R := 60) (S := 45) (I := 3) (a := a) (b := b) (U := U) hc9
     rw [hE, hF]; all_goals exact ⟨rfl, rfl⟩)
  | (have hn3 : ¬ (r.rd : Int) = 3 := by omega
     have hE := cV hc9
     first
     | rw [if_pos (by omega), if_neg (by rw [‹aY (w.getD 1 []) = false›]; decide)] at hE
     | rw [if_pos (by omega), if_pos (by assumption)] at hE
     | rw [if_neg (by omega), if_pos (by omega)] at hE
     | rw [if_neg (by omega), if_neg (by omega), if_pos (by omega)] at hE
     | rw [if_neg (by omega), if_neg (by omega), if_neg (by omega), if_neg (by omega), if_pos (show ixB r.sts (w.getD 1 []) < 0 by assumption)] at hE
     | rw [if_neg (by omega), if_neg (by omega), if_neg (by omega), if_neg (by omega), if_neg (show ¬ ixB r.sts (w.getD 1 []) < 0 by unfold ixB; omega)] at hE
     obtain ⟨hE, hF⟩ := iA (R := 60) (S := 45) (I := 3) (a := a) (b := b) (U := U) (by omega) hE
     rw [hE, hF]; all_goals exact ⟨rfl, rfl⟩)
  | (obtain ⟨hE, hF⟩ := ln (R := 60) (S := 45) (I := 3) (a := a) (b := b) (U := U) hc9 (by omega)
     rw [hE, hF, hV]; all_goals exact ⟨rfl, rfl⟩)
 (try simp only [zB, reduceCtorEq] at hc14)
 refine af fun _ k20 => ?_
 refine ah hP hN rfl ?_
 iterate 2 (refine ae rfl fun _ k0 => ?_; simp only [zO, zT, acs, reduceCtorEq, V, O, Z, ad, ab, aa, Int.toNat_one]; (repeat refine an ?_); (try refine .inl ?_); apply k0; clear k0; simp only [zP, O])
 refine ag ?_
 apply k20; clear k20; refine kp [0, 1, 4, 5, 6, 37, 41, 42, 56] ?_
 refine cd (fun hc21 => ?_) (fun hc21 => ?_)
 ·(try simp only [zB, reduceCtorEq] at hc21)
  refine af fun _ k22 => ?_
  refine ah hP hN rfl ?_
  iterate 2 (refine ae rfl fun _ k0 => ?_; simp only [zO, zT, acs, reduceCtorEq, V, O, Z, ad, ab, aa, Int.toNat_one, aD]; (repeat refine an ?_); (try refine .inl ?_); apply k0; clear k0; simp only [zP, O])
  (refine ae rfl fun _ k0 => ?_; simp only [zE, op1, ev, lkp, db, bB, ck, bnd, Ty.size, fQ, ci, d7, Nat.mul_one, bp, bc, b0, acs, Ty.dflt, zG, reduceCtorEq, V, O, Z, ad, ab, aa, Tryz.el22, Tryz.st24, Tryz.st29, Tryz.st60, Tryz.td1, Tryz.td22, Tryz.td24, Tryz.td29, Tryz.td58, Tryz.td60, Int.toNat_one, aD]; (repeat refine an ?_); (try refine .inl ?_); apply k0; clear k0; simp only [zP, O])
  iterate 5 (refine ae rfl fun _ k0 => ?_; simp only [zO, zT, acs, reduceCtorEq, V, O, Z, ad, ab, aa, Int.toNat_one, aD]; (repeat refine an ?_); (try refine .inl ?_); apply k0; clear k0; simp only [zP, O])
  refine ag ?_
  apply k22; clear k22; refine kp [0, 1, 4, 5, 6, 37, 41, 42, 56] ?_
  refine af fun _ k23 => ?_
  refine ah hP hN rfl ?_
  iterate 5 (refine ae rfl fun _ k0 => ?_; simp only [zO, zT, acs, reduceCtorEq, V, O, Z, ad, ab, aa, Int.toNat_one]; (repeat refine an ?_); (try refine .inl ?_); apply k0; clear k0; simp only [zP, O])
  refine ae rfl fun _ k0 => ?_
  refine aC (h := au (jg (w.drop 1))) rfl rfl (by first | exact rfl | (simp only [ev, zP, V, O]; exact rfl)) (by simp only [zV, acs, reduceCtorEq, V, O, Z, ad, ab, aa, Int.toNat_one]) ?_
  apply k0; clear k0; simp only [zP, O]
  (refine ae rfl fun _ k0 => ?_; simp only [zO, zT, acs, reduceCtorEq, V, O, Z, ad, ab, aa, Int.toNat_one]; (repeat refine an ?_); (try refine .inl ?_); apply k0; clear k0; simp only [zP, O])
  refine ag ?_
  apply k23; clear k23; refine kp [0, 1, 4, 5, 6, 37, 41, 42, 56] ?_
  refine ax ?_
  refine ⟨by first | exact .inl rfl | exact .inr rfl, _, rfl, ?_⟩; simp only [zP, V, O, Int.toNat_one]
  have hU := aH (dg (R := 60) (S := 45) (I := 3) (r := r) (a := a) (b := b) (U := U) (w := w) (x := .vars 60 [.str r.nm, .list .str r.ins, .list .str r.outs, .int .i64 r.inp, .int .i64 r.st, a, b, .list .str r.sts, .int .i64 (r.rd : Int), .int .i64 r.lf]))
  have hV := aH (ct (R := 60) (S := 45) (I := 3) (r := r) (a := a) (b := b) (U := U) (l := w.drop 1) (x := .vars 60 [.str r.nm, .list .str r.ins, .list .str r.outs, .int .i64 r.inp, .int .i64 r.st, a, b, .list .str r.sts, .int .i64 (r.rd : Int), .int .i64 r.lf]))
  simp only [ak] at hU hV
  rw [hU]
  first
  | (obtain ⟨hE, hF⟩ := lD (R := 60) (S := 45) (I := 3) (a := a) (b := b) (U := U) hc9
     rw [hE, hF]; all_goals exact ⟨rfl, rfl⟩)
  | (have hn3 : ¬ (r.rd : Int) = 3 := by omega
     have hE := cV hc9
     first
     | rw [if_pos (by omega), if_neg (by rw [‹aY (w.getD 1 []) = false›]; decide)] at hE
     | rw [if_pos (by omega), if_pos (by assumption)] at hE
     | rw [if_neg (by omega), if_pos (by omega)] at hE
     | rw [if_neg (by omega), if_neg (by omega), if_pos (by omega)] at hE
     | rw [if_neg (by omega), if_neg (by omega), if_neg (by omega), if_neg (by omega), if_pos (show ixB r.sts (w.getD 1 []) < 0 by assumption)] at hE
     | rw [if_neg (by omega), if_neg (by omega), if_neg (by omega), if_neg (by omega), if_neg (show ¬ ixB r.sts (w.getD 1 []) < 0 by unfold ixB; omega)] at hE
     obtain ⟨hE, hF⟩ := iA (R := 60) (S := 45) (I := 3) (a := a) (b := b) (U := U) (by omega) hE
     rw [hE, hF]; all_goals exact ⟨rfl, rfl⟩)
  | (obtain ⟨hE, hF⟩ := ln (R := 60) (S := 45) (I := 3) (a := a) (b := b) (U := U) hc9 (by omega)
     rw [hE, hF, hV]; all_goals exact ⟨rfl, rfl⟩)
 (try simp only [zB, reduceCtorEq] at hc21)
 refine af fun _ k24 => ?_
 refine ah hP hN rfl ?_
 iterate 2 (refine ae rfl fun _ k0 => ?_; simp only [zO, zT, acs, reduceCtorEq, V, O, Z, ad, ab, aa, Int.toNat_one]; (repeat refine an ?_); (try refine .inl ?_); apply k0; clear k0; simp only [zP, O])
 refine ag ?_
 apply k24; clear k24; refine kp [0, 1, 4, 5, 6, 37, 41, 42, 56, 71] ?_
 refine cd (fun hc25 => ?_) (fun hc25 => ?_)
 ·(try simp only [zB, reduceCtorEq] at hc25)
  refine af fun _ k26 => ?_
  refine ah hP hN rfl ?_
  iterate 2 (refine ae rfl fun _ k0 => ?_; simp only [zO, zT, acs, reduceCtorEq, V, O, Z, ad, ab, aa, Int.toNat_one, aD]; (repeat refine an ?_); (try refine .inl ?_); apply k0; clear k0; simp only [zP, O])
  (refine ae rfl fun _ k0 => ?_; simp only [zE, op1, ev, lkp, db, bB, ck, bnd, Ty.size, fQ, ci, d7, Nat.mul_one, bp, bc, b0, acs, Ty.dflt, zG, reduceCtorEq, V, O, Z, ad, ab, aa, Tryz.el22, Tryz.st24, Tryz.st29, Tryz.st60, Tryz.td2, Tryz.td22, Tryz.td24, Tryz.td29, Tryz.td58, Tryz.td60, Int.toNat_one, aD]; (repeat refine an ?_); (try refine .inl ?_); apply k0; clear k0; simp only [zP, O])
  iterate 5 (refine ae rfl fun _ k0 => ?_; simp only [zO, zT, acs, reduceCtorEq, V, O, Z, ad, ab, aa, Int.toNat_one, aD]; (repeat refine an ?_); (try refine .inl ?_); apply k0; clear k0; simp only [zP, O])
  refine ag ?_
  apply k26; clear k26; refine kp [0, 1, 4, 5, 6, 37, 41, 42, 56, 71] ?_
  refine af fun _ k27 => ?_
  refine ah hP hN rfl ?_
  iterate 5 (refine ae rfl fun _ k0 => ?_; simp only [zO, zT, acs, reduceCtorEq, V, O, Z, ad, ab, aa, Int.toNat_one]; (repeat refine an ?_); (try refine .inl ?_); apply k0; clear k0; simp only [zP, O])
  refine ae rfl fun _ k0 => ?_
  refine aC (h := au (jg (w.drop 1))) rfl rfl (by first | exact rfl | (simp only [ev, zP, V, O]; exact rfl)) (by simp only [zV, acs, reduceCtorEq, V, O, Z, ad, ab, aa, Int.toNat_one]) ?_
  apply k0; clear k0; simp only [zP, O]
  (refine ae rfl fun _ k0 => ?_; simp only [zO, zT, acs, reduceCtorEq, V, O, Z, ad, ab, aa, Int.toNat_one]; (repeat refine an ?_); (try refine .inl ?_); apply k0; clear k0; simp only [zP, O])
  refine ag ?_
  apply k27; clear k27; refine kp [0, 1, 4, 5, 6, 37, 41, 42, 56, 71] ?_
  refine ax ?_
  refine ⟨by first | exact .inl rfl | exact .inr rfl, _, rfl, ?_⟩; simp only [zP, V, O, Int.toNat_one]
  have hU := aH (dg (R := 60) (S := 45) (I := 3) (r := r) (a := a) (b := b) (U := U) (w := w) (x := .vars 60 [.str r.nm, .list .str r.ins, .list .str r.outs, .int .i64 r.inp, .int .i64 r.st, a, b, .list .str r.sts, .int .i64 (r.rd : Int), .int .i64 r.lf]))
  have hV := aH (ct (R := 60) (S := 45) (I := 3) (r := r) (a := a) (b := b) (U := U) (l := w.drop 1) (x := .vars 60 [.str r.nm, .list .str r.ins, .list .str r.outs, .int .i64 r.inp, .int .i64 r.st, a, b, .list .str r.sts, .int .i64 (r.rd : Int), .int .i64 r.lf]))
  simp only [ak] at hU hV
  rw [hU]
  first
  | (obtain ⟨hE, hF⟩ := lD (R := 60) (S := 45) (I := 3) (a := a) (b := b) (U := U) hc9
     rw [hE, hF]; all_goals exact ⟨rfl, rfl⟩)
  | (have hn3 : ¬ (r.rd : Int) = 3 := by omega
     have hE := cV hc9
     first
     | rw [if_pos (by omega), if_neg (by rw [‹aY (w.getD 1 []) = false›]; decide)] at hE
     | rw [if_pos (by omega), if_pos (by assumption)] at hE
     | rw [if_neg (by omega), if_pos (by omega)] at hE
     | rw [if_neg (by omega), if_neg (by omega), if_pos (by omega)] at hE
     | rw [if_neg (by omega), if_neg (by omega), if_neg (by omega), if_neg (by omega), if_pos (show ixB r.sts (w.getD 1 []) < 0 by assumption)] at hE
     | rw [if_neg (by omega), if_neg (by omega), if_neg (by omega), if_neg (by omega), if_neg (show ¬ ixB r.sts (w.getD 1 []) < 0 by unfold ixB; omega)] at hE
     obtain ⟨hE, hF⟩ := iA (R := 60) (S := 45) (I := 3) (a := a) (b := b) (U := U) (by omega) hE
     rw [hE, hF]; all_goals exact ⟨rfl, rfl⟩)
  | (obtain ⟨hE, hF⟩ := ln (R := 60) (S := 45) (I := 3) (a := a) (b := b) (U := U) hc9 (by omega)
     rw [hE, hF, hV]; all_goals exact ⟨rfl, rfl⟩)
 (try simp only [zB, reduceCtorEq] at hc25)
 refine af fun _ k28 => ?_
 refine ah hP hN rfl ?_
 iterate 2 (refine ae rfl fun _ k0 => ?_; simp only [zO, zT, acs, reduceCtorEq, V, O, Z, ad, ab, aa, Int.toNat_one]; (repeat refine an ?_); (try refine .inl ?_); apply k0; clear k0; simp only [zP, O])
 refine ag ?_
 apply k28; clear k28; refine kp [0, 1, 4, 5, 6, 37, 41, 42, 56, 71, 86] ?_
 refine cd (fun hc29 => ?_) (fun hc29 => ?_)
 ·(try simp only [zB, reduceCtorEq] at hc29)
  refine af fun _ k30 => ?_
  refine ah hP hN rfl ?_
  iterate 2 (refine ae rfl fun _ k0 => ?_; simp only [zO, zT, acs, reduceCtorEq, V, O, Z, ad, ab, aa, Int.toNat_one, aD]; (repeat refine an ?_); (try refine .inl ?_); apply k0; clear k0; simp only [zP, O])
  (refine ae rfl fun _ k0 => ?_; simp only [zE, op1, ev, lkp, db, bB, ck, bnd, Ty.size, reduceCtorEq, V, O, Z, ad, ab, aa, Tryz.el22, Tryz.td22, Tryz.td58, Int.toNat_one, aD]; (repeat refine an ?_); (try refine .inl ?_); apply k0; clear k0; simp only [zP, O])
  refine ae rfl fun _ k0 => ?_
  refine aC (h := vI r a b U (w.drop 1) (by rw [List.length_drop]; omega) (hi (by omega))) rfl rfl (by first | exact rfl | (simp only [ev, zP, V, O]; exact rfl)) (by simp only [zV, acs, reduceCtorEq, V, O, Z, ad, ab, aa, Int.toNat_one, aD]) ?_
  apply k0; clear k0; simp only [zP, O]
  (refine ae rfl fun _ k0 => ?_; simp only [zO, zT, acs, reduceCtorEq, V, O, Z, ad, ab, aa, Int.toNat_one, aD]; (repeat refine an ?_); (try refine .inl ?_); apply k0; clear k0; simp only [zP, O])
  refine ag ?_
  apply k30; clear k30; refine kp [0, 1, 4, 5, 6, 37, 41, 42, 56, 71, 86] ?_
  refine ax ?_
  refine ⟨by first | exact .inl rfl | exact .inr rfl, _, rfl, ?_⟩; simp only [zP, V, O, Int.toNat_one]
  have hU := aH (dg (R := 60) (S := 45) (I := 3) (r := r) (a := a) (b := b) (U := U) (w := w) (x := .vars 60 [.str r.nm, .list .str r.ins, .list .str r.outs, .int .i64 r.inp, .int .i64 r.st, a, b, .list .str r.sts, .int .i64 (r.rd : Int), .int .i64 r.lf]))
  have hV := aH (ct (R := 60) (S := 45) (I := 3) (r := r) (a := a) (b := b) (U := U) (l := w.drop 1) (x := .vars 60 [.str r.nm, .list .str r.ins, .list .str r.outs, .int .i64 r.inp, .int .i64 r.st, a, b, .list .str r.sts, .int .i64 (r.rd : Int), .int .i64 r.lf]))
  simp only [ak] at hU hV
  rw [hU]
  first
  | (obtain ⟨hE, hF⟩ := lD (R := 60) (S := 45) (I := 3) (a := a) (b := b) (U := U) hc9
     rw [hE, hF]; all_goals exact ⟨rfl, rfl⟩)
  | (have hn3 : ¬ (r.rd : Int) = 3 := by omega
     have hE := cV hc9
     first
     | rw [if_pos (by omega), if_neg (by rw [‹aY (w.getD 1 []) = false›]; decide)] at hE
     | rw [if_pos (by omega), if_pos (by assumption)] at hE
     | rw [if_neg (by omega), if_pos (by omega)] at hE
     | rw [if_neg (by omega), if_neg (by omega), if_pos (by omega)] at hE
     | rw [if_neg (by omega), if_neg (by omega), if_neg (by omega), if_neg (by omega), if_pos (show ixB r.sts (w.getD 1 []) < 0 by assumption)] at hE
     | rw [if_neg (by omega), if_neg (by omega), if_neg (by omega), if_neg (by omega), if_neg (show ¬ ixB r.sts (w.getD 1 []) < 0 by unfold ixB; omega)] at hE
     obtain ⟨hE, hF⟩ := iA (R := 60) (S := 45) (I := 3) (a := a) (b := b) (U := U) (by omega) hE
     rw [hE, hF]; all_goals exact ⟨rfl, rfl⟩)
  | (obtain ⟨hE, hF⟩ := ln (R := 60) (S := 45) (I := 3) (a := a) (b := b) (U := U) hc9 (by omega)
     rw [hE, hF, hV]; all_goals exact ⟨rfl, rfl⟩)
 (try simp only [zB, reduceCtorEq] at hc29)
 refine af fun _ k31 => ?_
 refine ah hP hN rfl ?_
 iterate 2 (refine ae rfl fun _ k0 => ?_; simp only [zO, zT, acs, reduceCtorEq, V, O, Z, ad, ab, aa, Int.toNat_one]; (repeat refine an ?_); (try refine .inl ?_); apply k0; clear k0; simp only [zP, O])
 refine ag ?_
 apply k31; clear k31; refine kp [0, 1, 4, 5, 6, 37, 41, 42, 56, 71, 86, 92] ?_
 refine cd (fun hc32 => ?_) (fun hc32 => ?_)
 ·(try simp only [zB, reduceCtorEq] at hc32)
  refine af fun _ k33 => ?_
  refine bZ hP hN Tryz.mixed rfl ?_
  iterate 8 (refine ae rfl fun _ k0 => ?_; simp only [zO, zT, acs, reduceCtorEq, V, O, Z, ad, ab, aa, Int.toNat_one]; (repeat refine an ?_); (try refine .inl ?_); apply k0; clear k0; simp only [zP, O])
  refine ae rfl fun _ k0 => ?_
  refine aC (h := au (gp r.sts (w.getD 1 []))) rfl rfl (by first | exact rfl | (simp only [ev, zP, V, O]; exact rfl)) (by simp only [zV, acs, reduceCtorEq, V, O, Z, ad, ab, aa, Int.toNat_one]) ?_
  apply k0; clear k0; simp only [zP, O]
  iterate 5 (refine ae rfl fun _ k0 => ?_; simp only [zO, zT, acs, reduceCtorEq, V, O, Z, ad, ab, aa, Int.toNat_one]; (repeat refine an ?_); (try refine .inl ?_); apply k0; clear k0; simp only [zP, O])
  refine ag ?_
  refine ⟨by kernel_rfl, ?_⟩
  apply k33; clear k33; refine kp [0, 1, 4, 5, 6, 37, 41, 42, 56, 71, 86, 92] ?_
  refine af fun _ k34 => ?_
  refine ah hP hN rfl ?_
  iterate 7 (refine ae rfl fun _ k0 => ?_; simp only [zO, zT, acs, reduceCtorEq, V, O, Z, ad, ab, aa, Int.toNat_one]; (repeat refine an ?_); (try refine .inl ?_); apply k0; clear k0; simp only [zP, O])
  refine ag ?_
  apply k34; clear k34; refine kp [0, 1, 4, 5, 6, 37, 41, 42, 56, 71, 86, 92, 113] ?_
  refine cd (fun hc35 => ?_) (fun hc35 => ?_)
  ·(try simp only [zB, reduceCtorEq] at hc35)
   refine af fun _ k36 => ?_
   refine ah hP hN rfl ?_
   (refine ae rfl fun _ k0 => ?_; simp only [zO, zT, acs, reduceCtorEq, V, O, Z, ad, ab, aa, Int.toNat_one]; (repeat refine an ?_); (try refine .inl ?_); apply k0; clear k0; simp only [zP, O])
   refine ag ?_
   apply k36; clear k36; refine kp [0, 1, 4, 5, 6, 37, 41, 42, 56, 71, 86, 92, 113] ?_
   refine ax ?_
   refine ⟨by first | exact .inl rfl | exact .inr rfl, _, rfl, ?_⟩; simp only [zP, V, O, Int.toNat_one]
   have hU := aH (dg (R := 60) (S := 45) (I := 3) (r := r) (a := a) (b := b) (U := U) (w := w) (x := .vars 60 [.str r.nm, .list .str r.ins, .list .str r.outs, .int .i64 r.inp, .int .i64 r.st, a, b, .list .str r.sts, .int .i64 (r.rd : Int), .int .i64 r.lf]))
   have hV := aH (ct (R := 60) (S := 45) (I := 3) (r := r) (a := a) (b := b) (U := U) (l := w.drop 1) (x := .vars 60 [.str r.nm, .list .str r.ins, .list .str r.outs, .int .i64 r.inp, .int .i64 r.st, a, b, .list .str r.sts, .int .i64 (r.rd : Int), .int .i64 r.lf]))
   simp only [ak] at hU hV
   rw [hU]
   first
   | (obtain ⟨hE, hF⟩ := lD (R := 60) (S := 45) (I := 3) (a := a) (b := b) (U := U) hc9
      rw [hE, hF]; all_goals exact ⟨rfl, rfl⟩)
   | (have hn3 : ¬ (r.rd : Int) = 3 := by omega
      have hE := cV hc9
      first
      | rw [if_pos (by omega), if_neg (by rw [‹aY (w.getD 1 []) = false›]; decide)] at hE
      | rw [if_pos (by omega), if_pos (by assumption)] at hE
      | rw [if_neg (by omega), if_pos (by omega)] at hE
      | rw [if_neg (by omega), if_neg (by omega), if_pos (by omega)] at hE
      | rw [if_neg (by omega), if_neg (by omega), if_neg (by omega), if_neg (by omega), if_pos (show ixB r.sts (w.getD 1 []) < 0 by assumption)] at hE
      | rw [if_neg (by omega), if_neg (by omega), if_neg (by omega), if_neg (by omega), if_neg (show ¬ ixB r.sts (w.getD 1 []) < 0 by unfold ixB; omega)] at hE
      obtain ⟨hE, hF⟩ := iA (R := 60) (S := 45) (I := 3) (a := a) (b := b) (U := U) (by omega) hE
      rw [hE, hF]; all_goals exact ⟨rfl, rfl⟩)
   | (obtain ⟨hE, hF⟩ := ln (R := 60) (S := 45) (I := 3) (a := a) (b := b) (U := U) hc9 (by omega)
      rw [hE, hF, hV]; all_goals exact ⟨rfl, rfl⟩)
  (try simp only [zB, reduceCtorEq] at hc35)
  refine ay ?_
  apply k11; clear k11; refine kp [0, 1, 4, 5, 6, 37, 41, 42, 56, 71, 86, 92, 113] ?_
  refine af fun _ k37 => ?_
  refine ah hP hN rfl ?_
  (refine ae rfl fun _ k0 => ?_; simp only [zO, zT, acs, reduceCtorEq, V, O, Z, ad, ab, aa, Int.toNat_one]; (repeat refine an ?_); (try refine .inl ?_); apply k0; clear k0; simp only [zP, O])
  refine ag ?_
  apply k37; clear k37; refine kp [0, 1, 4, 5, 6, 37, 41, 42, 56, 71, 86, 92, 113] ?_
  refine ax ?_
  refine ⟨by first | exact .inl rfl | exact .inr rfl, _, rfl, ?_⟩; simp only [zP, V, O, Int.toNat_one]
  have hU := aH (dg (R := 60) (S := 45) (I := 3) (r := r) (a := a) (b := b) (U := U) (w := w) (x := .vars 60 [.str r.nm, .list .str r.ins, .list .str r.outs, .int .i64 r.inp, .int .i64 r.st, a, b, .list .str r.sts, .int .i64 (r.rd : Int), .int .i64 r.lf]))
  have hV := aH (ct (R := 60) (S := 45) (I := 3) (r := r) (a := a) (b := b) (U := U) (l := w.drop 1) (x := .vars 60 [.str r.nm, .list .str r.ins, .list .str r.outs, .int .i64 r.inp, .int .i64 r.st, a, b, .list .str r.sts, .int .i64 (r.rd : Int), .int .i64 r.lf]))
  simp only [ak] at hU hV
  rw [hU]
  first
  | (obtain ⟨hE, hF⟩ := lD (R := 60) (S := 45) (I := 3) (a := a) (b := b) (U := U) hc9
     rw [hE, hF]; all_goals exact ⟨rfl, rfl⟩)
  | (have hn3 : ¬ (r.rd : Int) = 3 := by omega
     have hE := cV hc9
     first
     | rw [if_pos (by omega), if_neg (by rw [‹aY (w.getD 1 []) = false›]; decide)] at hE
     | rw [if_pos (by omega), if_pos (by assumption)] at hE
     | rw [if_neg (by omega), if_pos (by omega)] at hE
     | rw [if_neg (by omega), if_neg (by omega), if_pos (by omega)] at hE
     | rw [if_neg (by omega), if_neg (by omega), if_neg (by omega), if_neg (by omega), if_pos (show ixB r.sts (w.getD 1 []) < 0 by assumption)] at hE
     | rw [if_neg (by omega), if_neg (by omega), if_neg (by omega), if_neg (by omega), if_neg (show ¬ ixB r.sts (w.getD 1 []) < 0 by unfold ixB; omega)] at hE
     obtain ⟨hE, hF⟩ := iA (R := 60) (S := 45) (I := 3) (a := a) (b := b) (U := U) (by omega) hE
     rw [hE, hF]; all_goals exact ⟨rfl, rfl⟩)
  | (obtain ⟨hE, hF⟩ := ln (R := 60) (S := 45) (I := 3) (a := a) (b := b) (U := U) hc9 (by omega)
     rw [hE, hF, hV]; all_goals exact ⟨rfl, rfl⟩)
 · exfalso; (try simp only [zB, reduceCtorEq] at hc32); all_goals (first | (cases hc32; done) | omega | (simp at hc32; done) | (simp_all; done))
theorem vU (r : RS) (w : List Bs) (hl : w.length ≤ 1000000) (h0 : 0 < w.length) (hr : r.rd < 5) (hk : LOK r) : dI Tryz.prog (SH 60 45 3 r) 49 [.one (.ptr 0 0 0 0), .one (.list .str w)] { av := .one (.int .i64 (aU r w).2), upd := eM (SH 60 45 3 r).length (SH 60 45 3 (aU r w).1), new := (SH 60 45 3 (aU r w).1).drop (SH 60 45 3 r).length, fp := List.range (SH 60 45 3 r).length } := by
  rw [← oC (r := r) (w := w) fun e => (hk.h3 e).1]
  exact wt r (rdA r) (rdB r) (rdT 45 3 r) w hl h0 hr fun e => (hk.h3 e).2
theorem nD (xs : List Bs) (x : Bs) : bH Tryz.prog 65 [.agg [.list .str xs], .one (.str x)] (.tup [.one (.int .i64 (idA xs x)), .one (.bool (decide (x ∈ xs)))]) := by
 refine aR Tryz.func65 rfl (by kernel_rfl) (Nat.le_of_ble_eq_true rfl) rfl fun C hP hN hB => ?_
 replace hN : C.N = 15 := hN
 simp only [aX, O]
 refine af fun _ k1 => ?_
 refine ah hP hN rfl ?_
 iterate 3 (refine ae rfl fun _ k0 => ?_; simp only [zO, zT, acs, reduceCtorEq, V, O, Z, ad, ab, aa]; (repeat refine an ?_); (try refine .inl ?_); apply k0; clear k0; simp only [zP, O])
 refine ag ?_
 apply k1; clear k1; refine kp [0, 1, 2, 4, 5] ?_
 refine af fun _ k2 => ?_
 refine ah hP hN rfl ?_
 iterate 3 (refine ae rfl fun _ k0 => ?_; simp only [zO, zT, acs, reduceCtorEq, V, O, Z, ad, ab, aa]; (repeat refine an ?_); (try refine .inl ?_); apply k0; clear k0; simp only [zP, O])
 refine ae rfl fun _ k0 => ?_
 refine aC (h := au (gp xs x)) rfl rfl (by first | exact rfl | (simp only [ev, zP, V, O]; exact rfl)) (by simp only [zV, acs, reduceCtorEq, V, O, Z, ad, ab, aa]) ?_
 apply k0; clear k0; simp only [zP, O]
 (refine ae rfl fun _ k0 => ?_; simp only [zO, zT, acs, reduceCtorEq, V, O, Z, ad, ab, aa]; (repeat refine an ?_); (try refine .inl ?_); apply k0; clear k0; simp only [zP, O])
 refine ag ?_
 apply k2; clear k2; refine kp [0, 1, 2, 4, 5, 6] ?_
 refine af fun _ k3 => ?_
 refine ah hP hN rfl ?_
 iterate 6 (refine ae rfl fun _ k0 => ?_; simp only [zO, zT, acs, reduceCtorEq, V, O, Z, ad, ab, aa]; (repeat refine an ?_); (try refine .inl ?_); apply k0; clear k0; simp only [zP, O])
 refine ag ?_
 apply k3; clear k3; refine kp [0, 1, 2, 4, 5, 6] ?_
 refine ax ?_
 refine ⟨nr, _, rfl, ?_⟩; simp only [zF, zP, V, O]
 refine VLE.of_eq ?_
 unfold idA
 by_cases h : x ∈ xs
 · simp [h]
 · simp [h]; decide
set_option maxHeartbeats 1000000 in
theorem x6 (r : RS) (w : List Bs) (hk : ROK r) (hl : w.length ≤ 1000000) (hol : r.outs.length ≤ 1000000) : dI Tryz.prog (RT 60 45 3 r) 50 [.one (.ptr 0 0 0 0), .one (.list .str w)] { av := .one (.int .i64 (br r w).2), upd := eM (RT 60 45 3 r).length (RT 60 45 3 (br r w).1), new := (RT 60 45 3 (br r w).1).drop (RT 60 45 3 r).length, fp := List.range (RT 60 45 3 r).length } := by
 refine dQ _ _ Tryz.func50 rfl (by kernel_rfl) (Nat.le_of_ble_eq_true rfl) (by intro k hk; exact List.mem_range.2 hk) (fun C hP hN hB => ?_)
 replace hB : C.bL.length = (RT 60 45 3 r).length := by rw [hB]; skip
 replace hN : C.N = 114 := hN
 simp only [aX, O]
 refine af fun _ k1 => ?_
 refine ah hP hN rfl ?_
 (refine ae rfl fun _ k0 => ?_; simp only [zO, zT, acs, reduceCtorEq, V, O, Z, ad, ab, aa, Int.toNat_one, Int.reduceToNat]; (repeat refine an ?_); (try refine .inl ?_); apply k0; clear k0; simp only [zP, O])
 refine ag ?_
 apply k1; clear k1; refine kp [0, 1, 4] ?_
 refine af fun _ k2 => ?_
 refine af fun _ k3 => ?_
 refine ah hP hN rfl ?_
 iterate 3 (refine ae rfl fun _ k0 => ?_; simp only [zO, zT, acs, reduceCtorEq, V, O, Z, ad, ab, aa, Int.toNat_one, Int.reduceToNat]; (repeat refine an ?_); (try refine .inl ?_); apply k0; clear k0; simp only [zP, O])
 refine ag ?_
 apply k3; clear k3; refine kp [0, 1, 4, 13] ?_
 refine cd (fun hc4 => ?_) (fun hc4 => ?_)
 ·(try simp only [zB, reduceCtorEq] at hc4)
  refine af fun _ k5 => ?_
  refine ah hP hN rfl ?_
  (refine ae rfl fun _ k0 => ?_; simp only [zO, zT, acs, reduceCtorEq, V, O, Z, ad, ab, aa, Int.toNat_one, Int.reduceToNat]; (repeat refine an ?_); (try refine .inl ?_); apply k0; clear k0; simp only [zP, O])
  refine ag ?_
  apply k5; clear k5; refine kp [0, 1, 4, 13] ?_
  refine ax ?_
  refine ⟨by first | exact .inl rfl | exact .inr rfl, _, rfl, ?_⟩; simp only [zP, V, O, Int.toNat_one, Int.reduceToNat]
  have hU := aH (jz 60 45 3 r w)
  rw [hU]
  first
  | (rw [hM (by assumption)]; all_goals exact ⟨rfl, rfl⟩)
  | (rw [i8 (by assumption) (ko hbad)]; all_goals exact ⟨rfl, rfl⟩)
  | (rw [ik (by assumption) hm0 hm3 hm1 hm2 (by omega)]; all_goals exact ⟨rfl, rfl⟩)
  | (rw [gD (by assumption) hm0 hm3 hm1 hm2 (by omega)]; subst hr2; subst hr1; all_goals exact ⟨rfl, rfl⟩)
 (try simp only [zB, reduceCtorEq] at hc4)
 refine ay ?_
 apply k2; clear k2; refine kp [0, 1, 4, 13] ?_
 refine af fun _ k6 => ?_
 refine bZ hP hN Tryz.mixed rfl ?_
 iterate 7 (refine ae rfl fun _ k0 => ?_; simp only [zO, zT, acs, reduceCtorEq, V, O, Z, ad, ab, aa, Int.toNat_one, Int.reduceToNat, fd, rdC]; (repeat refine an ?_); (try refine .inl ?_); apply k0; clear k0; simp only [zP, O])
 refine ae rfl fun _ k0 => ?_
 refine aC (h := au (gp r.sts (w.getD 0 []))) rfl rfl (by first | exact rfl | (simp only [ev, zP, V, O]; exact rfl)) (by simp only [zV, acs, reduceCtorEq, V, O, Z, ad, ab, aa, Int.toNat_one, Int.reduceToNat, fd, rdC]) ?_
 apply k0; clear k0; simp only [zP, O]
 iterate 7 (refine ae rfl fun _ k0 => ?_; simp only [zO, zT, acs, reduceCtorEq, V, O, Z, ad, ab, aa, Int.toNat_one, Int.reduceToNat, fd, rdC]; (repeat refine an ?_); (try refine .inl ?_); apply k0; clear k0; simp only [zP, O])
 refine ae rfl fun _ k0 => ?_
 refine aC (h := au (gp r.sts (w.getD 3 []))) rfl rfl (by first | exact rfl | (simp only [ev, zP, V, O]; exact rfl)) (by simp only [zV, acs, reduceCtorEq, V, O, Z, ad, ab, aa, Int.toNat_one, Int.reduceToNat, fd, rdC]) ?_
 apply k0; clear k0; simp only [zP, O]
 iterate 2 (refine ae rfl fun _ k0 => ?_; simp only [zO, zT, acs, reduceCtorEq, V, O, Z, ad, ab, aa, Int.toNat_one, Int.reduceToNat, fd, rdC]; (repeat refine an ?_); (try refine .inl ?_); apply k0; clear k0; simp only [zP, O])
 refine ag ?_
 refine ⟨by kernel_rfl, ?_⟩
 apply k6; clear k6; refine kp [0, 1, 4, 5, 6, 13] ?_
 refine af fun _ k7 => ?_
 refine bZ hP hN Tryz.mixed rfl ?_
 iterate 8 (refine ae rfl fun _ k0 => ?_; simp only [zO, zT, acs, reduceCtorEq, V, O, Z, ad, ab, aa, Int.toNat_one, Int.reduceToNat, fd, rdC]; (repeat refine an ?_); (try refine .inl ?_); apply k0; clear k0; simp only [zP, O])
 refine ae rfl fun _ k0 => ?_
 refine aC (h := au (nD r.ins (w.getD 1 []))) rfl rfl (by first | exact rfl | (simp only [ev, zP, V, O]; exact rfl)) (by simp only [zV, acs, reduceCtorEq, V, O, Z, ad, ab, aa, Int.toNat_one, Int.reduceToNat, fd, rdC]) ?_
 apply k0; clear k0; simp only [zP, O]
 iterate 5 (refine ae rfl fun _ k0 => ?_; simp only [zO, zT, acs, reduceCtorEq, V, O, Z, ad, ab, aa, Int.toNat_one, Int.reduceToNat, fd, rdC]; (repeat refine an ?_); (try refine .inl ?_); apply k0; clear k0; simp only [zP, O])
 refine ag ?_
 refine ⟨by kernel_rfl, ?_⟩
 apply k7; clear k7; refine kp [0, 1, 4, 5, 6, 7, 8, 13] ?_
 refine af fun _ k8 => ?_
 refine bZ hP hN Tryz.mixed rfl ?_
 iterate 8 (refine ae rfl fun _ k0 => ?_; simp only [zO, zT, acs, reduceCtorEq, V, O, Z, ad, ab, aa, Int.toNat_one, Int.reduceToNat, fd, rdC]; (repeat refine an ?_); (try refine .inl ?_); apply k0; clear k0; simp only [zP, O])
 refine ae rfl fun _ k0 => ?_
 refine aC (h := au (nD r.outs (w.getD 2 []))) rfl rfl (by first | exact rfl | (simp only [ev, zP, V, O]; exact rfl)) (by simp only [zV, acs, reduceCtorEq, V, O, Z, ad, ab, aa, Int.toNat_one, Int.reduceToNat, fd, rdC]) ?_
 apply k0; clear k0; simp only [zP, O]
 iterate 5 (refine ae rfl fun _ k0 => ?_; simp only [zO, zT, acs, reduceCtorEq, V, O, Z, ad, ab, aa, Int.toNat_one, Int.reduceToNat, fd, rdC]; (repeat refine an ?_); (try refine .inl ?_); apply k0; clear k0; simp only [zP, O])
 refine ag ?_
 refine ⟨by kernel_rfl, ?_⟩
 apply k8; clear k8; refine kp [0, 1, 4, 5, 6, 7, 8, 9, 10, 13] ?_
 refine af fun _ k9 => ?_
 refine aE ?_
 refine af fun _ k10 => ?_
 refine ah hP hN rfl ?_
 iterate 3 (refine ae rfl fun _ k0 => ?_; simp only [zO, zT, acs, reduceCtorEq, V, O, Z, ad, ab, aa, Int.toNat_one, Int.reduceToNat]; (repeat refine an ?_); (try refine .inl ?_); apply k0; clear k0; simp only [zP, O])
 refine' aA (want := false) 2 rfl (m := 57) (by simp only [zP, V, O]; exact rfl) (by kernel_rfl) rfl rfl rfl rfl rfl (fun hg11 => ?a11) ?b11 ?c11
 case a11 =>
  have hq11 := hg11; (try simp only [zB, reduceCtorEq] at hg11); simp only [zE]
  iterate 2 (refine aQ rfl fun _ k0 => ?_; simp only [zO, zT, acs, reduceCtorEq, V, O, Z, ad, ab, aa, Int.toNat_one, Int.reduceToNat]; (repeat refine an ?_); (try refine .inl ?_); apply k0; clear k0; simp only [zP, O])
  (refine ae rfl fun _ k0 => ?_; simp only [zO, zT, acs, reduceCtorEq, V, O, Z, ad, ab, aa, Int.toNat_one, Int.reduceToNat]; (repeat refine an ?_); (try refine .inl ?_); apply k0; clear k0; simp only [zP, O])
  refine ag ?_
  refine ⟨by simp only [zP, V, O]; exact rfl, rfl, ?_, rfl⟩; (repeat refine az rfl ?_); exact aP (by exact rfl) hq11
 case b11 => exact bf
 simp only [aK, aF]
 (refine ae rfl fun _ k0 => ?_; simp only [zO, zT, acs, reduceCtorEq, V, O, Z, ad, ab, aa, Int.toNat_one, Int.reduceToNat]; (repeat refine an ?_); (try refine .inl ?_); apply k0; clear k0; simp only [zP, O])
 refine' aA (want := false) 2 rfl (m := 61) (by simp only [zP, V, O]; exact rfl) (by kernel_rfl) rfl rfl rfl rfl rfl (fun hg12 => ?a12) ?b12 ?c12
 case a12 =>
  have hq12 := hg12; (try simp only [zB, reduceCtorEq] at hg12); simp only [zE]
  iterate 2 (refine aQ rfl fun _ k0 => ?_; simp only [zO, zT, acs, reduceCtorEq, V, O, Z, ad, ab, aa, Int.toNat_one, Int.reduceToNat]; (repeat refine an ?_); (try refine .inl ?_); apply k0; clear k0; simp only [zP, O])
  (refine ae rfl fun _ k0 => ?_; simp only [zO, zT, acs, reduceCtorEq, V, O, Z, ad, ab, aa, Int.toNat_one, Int.reduceToNat]; (repeat refine an ?_); (try refine .inl ?_); apply k0; clear k0; simp only [zP, O])
  refine ag ?_
  refine ⟨by simp only [zP, V, O]; exact rfl, rfl, ?_, rfl⟩; (repeat refine az rfl ?_); exact aP (by exact rfl) hq12
 case b12 => exact bf
 simp only [aK, aF]
 (refine ae rfl fun _ k0 => ?_; simp only [zO, zT, acs, reduceCtorEq, V, O, Z, ad, ab, aa, Int.toNat_one, Int.reduceToNat]; (repeat refine an ?_); (try refine .inl ?_); apply k0; clear k0; simp only [zP, O])
 refine' aA (want := false) 2 rfl (m := 65) (by simp only [zP, V, O]; exact rfl) (by kernel_rfl) rfl rfl rfl rfl rfl (fun hg13 => ?a13) ?b13 ?c13
 case a13 =>
  have hq13 := hg13; (try simp only [zB, reduceCtorEq] at hg13); simp only [zE]
  iterate 2 (refine aQ rfl fun _ k0 => ?_; simp only [zO, zT, acs, reduceCtorEq, V, O, Z, ad, ab, aa, Int.toNat_one, Int.reduceToNat]; (repeat refine an ?_); (try refine .inl ?_); apply k0; clear k0; simp only [zP, O])
  (refine ae rfl fun _ k0 => ?_; simp only [zO, zT, acs, reduceCtorEq, V, O, Z, ad, ab, aa, Int.toNat_one, Int.reduceToNat]; (repeat refine an ?_); (try refine .inl ?_); apply k0; clear k0; simp only [zP, O])
  refine ag ?_
  refine ⟨by simp only [zP, V, O]; exact rfl, rfl, ?_, rfl⟩; (repeat refine az rfl ?_); exact aP (by exact rfl) hq13
 case b13 => exact bf
 simp only [aK, aF]
 (refine ae rfl fun _ k0 => ?_; simp only [zO, zT, acs, reduceCtorEq, V, O, Z, ad, ab, aa, Int.toNat_one, Int.reduceToNat]; (repeat refine an ?_); (try refine .inl ?_); apply k0; clear k0; simp only [zP, O])
 refine ag ?_
 apply k10; clear k10; refine kp [0, 1, 4, 5, 6, 7, 8, 9, 10, 13, 54] ?_
 refine cd (fun hc14 => ?_) (fun hc14 => ?_)
 ·(try simp only [zB, reduceCtorEq] at hc14)
  have hbad := hc14
  refine af fun _ k15 => ?_
  refine ah hP hN rfl ?_
  (refine ae rfl fun _ k0 => ?_; simp only [zO, zT, acs, reduceCtorEq, V, O, Z, ad, ab, aa, Int.toNat_one, Int.reduceToNat]; (repeat refine an ?_); (try refine .inl ?_); apply k0; clear k0; simp only [zP, O])
  refine ag ?_
  apply k15; clear k15; refine kp [0, 1, 4, 5, 6, 7, 8, 9, 10, 13, 54] ?_
  refine ax ?_
  refine ⟨by first | exact .inl rfl | exact .inr rfl, _, rfl, ?_⟩; simp only [zP, V, O, Int.toNat_one, Int.reduceToNat]
  have hU := aH (jz 60 45 3 r w)
  rw [hU]
  first
  | (rw [hM (by assumption)]; all_goals exact ⟨rfl, rfl⟩)
  | (rw [i8 (by assumption) (ko hbad)]; all_goals exact ⟨rfl, rfl⟩)
  | (rw [ik (by assumption) hm0 hm3 hm1 hm2 (by omega)]; all_goals exact ⟨rfl, rfl⟩)
  | (rw [gD (by assumption) hm0 hm3 hm1 hm2 (by omega)]; subst hr2; subst hr1; all_goals exact ⟨rfl, rfl⟩)
 (try simp only [zB, reduceCtorEq] at hc14)
 have hgd := hc14
 obtain ⟨hm0, hm3, hm1, hm2⟩ := wi hgd
 have hp0 := eG hm0; have hp1 := eG hm1; have hp2 := eG hm2; have hp3 := eG hm3
 have hnl := hk.nl; have hol2 := hk.ol; have hrl := hk.rl (pos r.sts (w.getD 0 [])) (by omega); have hql := hk.ql (pos r.sts (w.getD 0 [])) (by omega)
 have hi9 : idA r.ins (w.getD 1 []) = (pos r.ins (w.getD 1 []) : Int) := if_pos hm1
 have ho9 : idA r.outs (w.getD 2 []) = (pos r.outs (w.getD 2 []) : Int) := if_pos hm2
 refine af fun _ k16 => ?_
 have hc1 : (cL 2 r.nx.length).getD (pos r.sts (w.getD 0 [])) .junk = .row (2 + pos r.sts (w.getD 0 [])) 0 := nu (by omega)
 have hl2 := wL (R := 60) (S := 45) (I := 3) (r := r) (s := pos r.sts (w.getD 0 [])) (by omega)
 refine ah hP hN rfl ?_
 iterate 14 (refine ae rfl fun _ k0 => ?_; simp only [zO, zT, acs, reduceCtorEq, V, O, Z, ad, ab, aa, Int.toNat_one, Int.reduceToNat, fd, rdC, sH, hm0, hm1, hm2, hm3, if_true, hi9, ho9, aN, Nat.div_one, hc1, di, hl2, Nat.mul_one, Nat.add_zero]; (repeat refine an ?_); (try refine .inl ?_); apply k0; clear k0; simp only [zP, O])
 refine ag ?_
 apply k16; clear k16; refine kp [0, 1, 4, 5, 6, 7, 8, 9, 10, 13, 54, 69] ?_
 refine cd (fun hc17 => ?_) (fun hc17 => ?_)
 ·(try simp only [zB, reduceCtorEq] at hc17)
  have hex := hc17
  refine af fun _ k18 => ?_
  refine ah hP hN rfl ?_
  (refine ae rfl fun _ k0 => ?_; simp only [zO, zT, acs, reduceCtorEq, V, O, Z, ad, ab, aa, Int.toNat_one, Int.reduceToNat]; (repeat refine an ?_); (try refine .inl ?_); apply k0; clear k0; simp only [zP, O])
  refine ag ?_
  apply k18; clear k18; refine kp [0, 1, 4, 5, 6, 7, 8, 9, 10, 13, 54, 69] ?_
  refine ax ?_
  refine ⟨by first | exact .inl rfl | exact .inr rfl, _, rfl, ?_⟩; simp only [zP, V, O, Int.toNat_one, Int.reduceToNat]
  have hU := aH (jz 60 45 3 r w)
  rw [hU]
  first
  | (rw [hM (by assumption)]; all_goals exact ⟨rfl, rfl⟩)
  | (rw [i8 (by assumption) (ko hbad)]; all_goals exact ⟨rfl, rfl⟩)
  | (rw [ik (by assumption) hm0 hm3 hm1 hm2 (by omega)]; all_goals exact ⟨rfl, rfl⟩)
  | (rw [gD (by assumption) hm0 hm3 hm1 hm2 (by omega)]; subst hr2; subst hr1; all_goals exact ⟨rfl, rfl⟩)
 (try simp only [zB, reduceCtorEq] at hc17)
 have hnx := hc17
 refine ay ?_
 apply k9; clear k9; refine kp [0, 1, 4, 5, 6, 7, 8, 9, 10, 13, 54, 69] ?_
 refine af fun _ k19 => ?_
 have hs2 := wX (R := 60) (S := 45) (I := 3) (r := r) (s := pos r.sts (w.getD 0 [])) (by omega) ((r.nx.getD (pos r.sts (w.getD 0 [])) []).set (pos r.ins (w.getD 1 [])) (pos r.sts (w.getD 3 []) : Int))
 obtain ⟨r1, hr1⟩ : ∃ r1, { r with nx := r.nx.set (pos r.sts (w.getD 0 [])) ((r.nx.getD (pos r.sts (w.getD 0 [])) []).set (pos r.ins (w.getD 1 [])) (pos r.sts (w.getD 3 []) : Int)) } = r1 := ⟨_, rfl⟩
 rw [hr1] at hs2
 have hn1 : r1.nx.length = r.nx.length := by rw [← hr1]; simp
 have ho1 : r1.ot = r.ot := by rw [← hr1]
 have hf1 : r1.lf = r.lf := by rw [← hr1]
 have ht0 : (if w.getD 0 [] ∈ r.sts then (pos r.sts (w.getD 0 []) : Int) else -1) = pos r.sts (w.getD 0 []) := if_pos hm0
 have ht3 : (if w.getD 3 [] ∈ r.sts then (pos r.sts (w.getD 3 []) : Int) else -1) = pos r.sts (w.getD 3 []) := if_pos hm3
 rw [ht0, ht3, hi9, ho9]
 refine ah hP hN rfl ?_
 iterate 13 (refine ae rfl fun _ k0 => ?_; simp only [zO, zT, acs, reduceCtorEq, V, O, Z, ad, ab, aa, Int.toNat_one, Int.reduceToNat, fd, rdC, sH, aN, Nat.div_one, hc1, di, hl2, Nat.mul_one, Nat.add_zero]; (repeat refine an ?_); (try refine .inl ?_); apply k0; clear k0; simp only [zP, O, hs2])
 refine ag ?_
 apply k19; clear k19; refine kp [0, 1, 4, 5, 6, 7, 8, 9, 10, 13, 54, 69] ?_
 refine af fun _ k20 => ?_
 have hc4 : (cL (3 + r1.nx.length) r1.ot.length).getD (pos r.sts (w.getD 0 [])) .junk = .row (3 + r1.nx.length + pos r.sts (w.getD 0 [])) 0 := nu (by rw [ho1]; omega)
 have hl4 := wH (R := 60) (S := 45) (I := 3) (r := r1) (s := pos r.sts (w.getD 0 [])) (by rw [ho1]; omega)
 have hs4 := wV (R := 60) (S := 45) (I := 3) (r := r1) (s := pos r.sts (w.getD 0 [])) (by rw [ho1]; omega) ((r1.ot.getD (pos r.sts (w.getD 0 [])) []).set (pos r.ins (w.getD 1 [])) (pos r.outs (w.getD 2 []) : Int))
 have hq1 : (r1.ot.getD (pos r.sts (w.getD 0 [])) []).length = r.ins.length := by rw [ho1]; exact hql
 have hl9 : r1.ot.length = r.sts.length := by rw [ho1]; exact hol2
 obtain ⟨r2, hr2⟩ : ∃ r2, { r1 with ot := r1.ot.set (pos r.sts (w.getD 0 [])) ((r1.ot.getD (pos r.sts (w.getD 0 [])) []).set (pos r.ins (w.getD 1 [])) (pos r.outs (w.getD 2 []) : Int)) } = r2 := ⟨_, rfl⟩
 rw [hr2] at hs4
 have hf2 : r2.lf = r.lf := by rw [← hr2]; exact hf1
 refine ah hP hN rfl ?_
 iterate 13 (refine ae rfl fun _ k0 => ?_; simp only [zO, zT, acs, reduceCtorEq, V, O, Z, ad, ab, aa, Int.toNat_one, Int.reduceToNat, fd, rdC, uI, aN, Nat.div_one, hc4, di, hl4, Nat.mul_one, Nat.add_zero]; (repeat refine an ?_); (try refine .inl ?_); apply k0; clear k0; simp only [zP, O, hs4])
 refine ag ?_
 apply k20; clear k20; refine kp [0, 1, 4, 5, 6, 7, 8, 9, 10, 13, 54, 69] ?_
 refine af fun _ k21 => ?_
 have hlf0 := hk.l0; have hlf1 := hk.l1
 have hs0 := x5 (R := 60) (S := 45) (I := 3) (r := r2) (r2.lf - 1)
 refine ah hP hN rfl ?_
 iterate 8 (refine ae rfl fun _ k0 => ?_; simp only [zO, zT, acs, reduceCtorEq, V, O, Z, ad, ab, aa, Int.toNat_one, Int.reduceToNat, fd, rdC]; (repeat refine an ?_); (try refine .inl ?_); apply k0; clear k0; simp only [zP, O, hs0])
 refine ag ?_
 apply k21; clear k21; refine kp [0, 1, 4, 5, 6, 7, 8, 9, 10, 13, 54, 69] ?_
 refine af fun _ k22 => ?_
 refine ah hP hN rfl ?_
 (refine ae rfl fun _ k0 => ?_; simp only [zO, zT, acs, reduceCtorEq, V, O, Z, ad, ab, aa, Int.toNat_one, Int.reduceToNat]; (repeat refine an ?_); (try refine .inl ?_); apply k0; clear k0; simp only [zP, O])
 refine ag ?_
 apply k22; clear k22; refine kp [0, 1, 4, 5, 6, 7, 8, 9, 10, 13, 54, 69] ?_
 refine ax ?_
 refine ⟨by first | exact .inl rfl | exact .inr rfl, _, rfl, ?_⟩; simp only [zP, V, O, Int.toNat_one, Int.reduceToNat]
 have hU := aH (jz 60 45 3 r w)
 rw [hU]
 first
 | (rw [hM (by assumption)]; all_goals exact ⟨rfl, rfl⟩)
 | (rw [i8 (by assumption) (ko hbad)]; all_goals exact ⟨rfl, rfl⟩)
 | (rw [ik (by assumption) hm0 hm3 hm1 hm2 (by omega)]; all_goals exact ⟨rfl, rfl⟩)
 | (rw [gD (by assumption) hm0 hm3 hm1 hm2 (by omega)]; subst hr2; subst hr1; all_goals exact ⟨rfl, rfl⟩)
theorem wW (r : RS) (w : List Bs) (hl : w.length ≤ 1000000) (hr : 5 ≤ r.rd) (hk : LOK r) : dI Tryz.prog (SH 60 45 3 r) 50 [.one (.ptr 0 0 0 0), .one (.list .str w)] { av := .one (.int .i64 (br r w).2), upd := eM (SH 60 45 3 r).length (SH 60 45 3 (br r w).1), new := (SH 60 45 3 (br r w).1).drop (SH 60 45 3 r).length, fp := List.range (SH 60 45 3 r).length } := by
  obtain ⟨ht, h1, h2⟩ := hk.h5 hr
  rw [fk ht, fk (kf.trans ht)]
  exact x6 r w h1 hl h2
open Go.Shelf in
def Tryz.lays138_ren : Go.Shelf.Ren := ⟨fun | 138 => 84 | 195 => 97 | 218 => 99 | 143 => 85 | 219 => 100 | 217 => 61 | 225 => 108 | 224 => 109 | 267 => 110 | 266 => 81 | 314 => 114 | n => n, fun | 9 => 9 | 3 => 3 | 4 => 4 | 5 => 5 | 0 => 0 | 46 => 103 | 146 => 155 | 51 => 120 | n => n, fun | 1 => 0 | n => n⟩
theorem Tryz.lays138 : Go.Proofs.Lays.n138 Tryz.prog Tryz.lays138_ren := {
  mixed := by kernel_rfl,
  f138 := Tryz.func84.trans (congrArg some (by kernel_rfl)),
  f143 := Tryz.func85.trans (congrArg some (by kernel_rfl)),
  f195 := Tryz.func97.trans (congrArg some (by kernel_rfl)),
  f217 := Tryz.func61.trans (congrArg some (by kernel_rfl)),
  f218 := Tryz.func99.trans (congrArg some (by kernel_rfl)),
  f219 := Tryz.func100.trans (congrArg some (by kernel_rfl)),
  f224 := Tryz.func109.trans (congrArg some (by kernel_rfl)),
  f225 := Tryz.func108.trans (congrArg some (by kernel_rfl)),
  f266 := Tryz.func81.trans (congrArg some (by kernel_rfl)),
  f267 := Tryz.func110.trans (congrArg some (by kernel_rfl)),
  f314 := Tryz.func114.trans (congrArg some (by kernel_rfl)),
  t0 := Tryz.underlying0,
  a0 := Tryz.isAgg0,
  z0 := Tryz.sizeOf0,
  v0 := Tryz.zeroValue0,
  t3 := Tryz.underlying3,
  a3 := Tryz.isAgg3,
  z3 := Tryz.sizeOf3,
  v3 := Tryz.zeroValue3,
  t4 := Tryz.underlying4,
  a4 := Tryz.isAgg4,
  z4 := Tryz.sizeOf4,
  v4 := Tryz.zeroValue4,
  t5 := Tryz.underlying5,
  a5 := Tryz.isAgg5,
  z5 := Tryz.sizeOf5,
  v5 := Tryz.zeroValue5,
  t9 := Tryz.underlying9,
  a9 := Tryz.isAgg9,
  z9 := Tryz.sizeOf9,
  v9 := Tryz.zeroValue9,
  t46 := Tryz.underlying103,
  a46 := Tryz.isAgg103,
  z46 := Tryz.sizeOf103,
  v46 := Tryz.zeroValue103,
  t51 := Tryz.underlying120,
  a51 := Tryz.isAgg120,
  z51 := Tryz.sizeOf120,
  v51 := Tryz.zeroValue120,
  t146 := Tryz.underlying155,
  a146 := Tryz.isAgg155,
  z146 := Tryz.sizeOf155,
  v146 := Tryz.zeroValue155,
  g1 := by kernel_rfl }
theorem w4 (s : List UInt8) (c : UInt8) : bH Tryz.prog 84 [.one (.str s), .one (.str [c])] (.one (.int .i64 (Lib.countByte s c : Int))) := by
  refine ⟨⟨Tryz.f84, Tryz.func84, by kernel_rfl, by kernel_rfl⟩, fun C L σ w vs hP hi ha => ?_⟩
  match vs, ha with
  | [v1, v2], ⟨h1, h2, _⟩ =>
  have e1 : v1 = .string ⟨s.toArray⟩ := h1.2
  have e2 := h2.2
  subst e1
  simp only [RC0] at e2
  subst e2
  refine Calls.mono (Any.strings_Count_one Tryz.lays138 ⟨s.toArray⟩ c w) fun e w' hh => ?_
  obtain ⟨e1, e2⟩ := hh
  subst e2
  exact ⟨_, e1, MORE.refl _, rfl, rfl⟩
open Go.Shelf in
def Tryz.lays143_ren : Go.Shelf.Ren := ⟨fun | 143 => 85 | 219 => 100 | 217 => 61 | 225 => 108 | 224 => 109 | 267 => 110 | 266 => 81 | 314 => 114 | n => n, fun | 9 => 9 | 3 => 3 | 4 => 4 | 5 => 5 | 46 => 103 | 146 => 155 | 51 => 120 | n => n, fun | 1 => 0 | n => n⟩
theorem Tryz.lays143 : Go.Proofs.Lays.n143 Tryz.prog Tryz.lays143_ren := {
  mixed := by kernel_rfl,
  f143 := Tryz.func85.trans (congrArg some (by kernel_rfl)),
  f217 := Tryz.func61.trans (congrArg some (by kernel_rfl)),
  f219 := Tryz.func100.trans (congrArg some (by kernel_rfl)),
  f224 := Tryz.func109.trans (congrArg some (by kernel_rfl)),
  f225 := Tryz.func108.trans (congrArg some (by kernel_rfl)),
  f266 := Tryz.func81.trans (congrArg some (by kernel_rfl)),
  f267 := Tryz.func110.trans (congrArg some (by kernel_rfl)),
  f314 := Tryz.func114.trans (congrArg some (by kernel_rfl)),
  t3 := Tryz.underlying3,
  a3 := Tryz.isAgg3,
  z3 := Tryz.sizeOf3,
  v3 := Tryz.zeroValue3,
  t4 := Tryz.underlying4,
  a4 := Tryz.isAgg4,
  z4 := Tryz.sizeOf4,
  v4 := Tryz.zeroValue4,
  t5 := Tryz.underlying5,
  a5 := Tryz.isAgg5,
  z5 := Tryz.sizeOf5,
  v5 := Tryz.zeroValue5,
  t9 := Tryz.underlying9,
  a9 := Tryz.isAgg9,
  z9 := Tryz.sizeOf9,
  v9 := Tryz.zeroValue9,
  t46 := Tryz.underlying103,
  a46 := Tryz.isAgg103,
  z46 := Tryz.sizeOf103,
  v46 := Tryz.zeroValue103,
  t51 := Tryz.underlying120,
  a51 := Tryz.isAgg120,
  z51 := Tryz.sizeOf120,
  v51 := Tryz.zeroValue120,
  t146 := Tryz.underlying155,
  a146 := Tryz.isAgg155,
  z146 := Tryz.sizeOf155,
  v146 := Tryz.zeroValue155,
  g1 := by kernel_rfl }
theorem wg (s : List UInt8) (c : UInt8) : bH Tryz.prog 85 [.one (.str s), .one (.str [c])] (.one (.int .i64 (Lib.indexByte s c))) := by
  refine ⟨⟨Tryz.f85, Tryz.func85, by kernel_rfl, by kernel_rfl⟩, fun C L σ w vs hP hi ha => ?_⟩
  match vs, ha with
  | [v1, v2], ⟨h1, h2, _⟩ =>
  have e1 : v1 = .string ⟨s.toArray⟩ := h1.2
  have e2 := h2.2
  subst e1
  simp only [RC0] at e2
  subst e2
  refine Calls.mono (Any.strings_Index_one Tryz.lays143 ⟨s.toArray⟩ c w) fun e w' hh => ?_
  obtain ⟨e1, e2⟩ := hh
  subst e2
  exact ⟨_, e1, MORE.refl _, rfl, rfl⟩
set_option maxHeartbeats 1000000 in
theorem uf (s : Bs) (c : UInt8) (hs : s.length ≤ 1048576) : bH Tryz.prog 63 [.one (.str s), .one (.str [c]), .one (.int .i64 0), .one (.int .i64 (-1))] (.one (.list .str (spB c s))) := by
 have hcl := tD c s; have hsl := mC c s
 refine aR Tryz.func63 rfl (by kernel_rfl) (Nat.le_of_ble_eq_true rfl) rfl fun C hP hN hB => ?_
 replace hN : C.N = 66 := hN
 simp only [aX, O]
 refine af fun _ k1 => ?_
 refine ah hP hN rfl ?_
 (refine ae rfl fun _ k0 => ?_; simp only [zO, zT, acs, reduceCtorEq, V, O, Z, ad, ab, aa]; (repeat refine an ?_); (try refine .inl ?_); apply k0; clear k0; simp only [zP, O])
 refine ag ?_
 apply k1; clear k1; refine kp [0, 1, 2, 3, 8] ?_
 refine af fun _ k2 => ?_
 refine af fun _ k3 => ?_
 refine ah hP hN rfl ?_
 iterate 2 (refine ae rfl fun _ k0 => ?_; simp only [zO, zT, acs, reduceCtorEq, V, O, Z, ad, ab, aa]; (repeat refine an ?_); (try refine .inl ?_); apply k0; clear k0; simp only [zP, O])
 refine ag ?_
 apply k3; clear k3; refine kp [0, 1, 2, 3, 8, 13] ?_
 refine cd (fun hc4 => ?_) (fun hc4 => ?_)
 · exfalso; (try simp only [zB, reduceCtorEq] at hc4); all_goals (first | (cases hc4; done) | omega | (simp at hc4; done) | (simp_all; done))
 (try simp only [zB, reduceCtorEq] at hc4)
 refine ay ?_
 apply k2; clear k2; refine kp [0, 1, 2, 3, 8, 13] ?_
 refine af fun _ k5 => ?_
 refine af fun _ k6 => ?_
 refine ah hP hN rfl ?_
 iterate 2 (refine ae rfl fun _ k0 => ?_; simp only [zO, zT, acs, reduceCtorEq, V, O, Z, ad, ab, aa]; (repeat refine an ?_); (try refine .inl ?_); apply k0; clear k0; simp only [zP, O])
 refine ag ?_
 apply k6; clear k6; refine kp [0, 1, 2, 3, 8, 13, 15] ?_
 refine cd (fun hc7 => ?_) (fun hc7 => ?_)
 · exfalso; (try simp only [zB, reduceCtorEq] at hc7); all_goals (first | (cases hc7; done) | omega | (simp at hc7; done) | (simp_all; done))
 (try simp only [zB, reduceCtorEq] at hc7)
 refine ay ?_
 apply k5; clear k5; refine kp [0, 1, 2, 3, 8, 13, 15] ?_
 refine af fun _ k8 => ?_
 refine af fun _ k9 => ?_
 refine ah hP hN rfl ?_
 iterate 2 (refine ae rfl fun _ k0 => ?_; simp only [zO, zT, acs, reduceCtorEq, V, O, Z, ad, ab, aa]; (repeat refine an ?_); (try refine .inl ?_); apply k0; clear k0; simp only [zP, O])
 refine ag ?_
 apply k9; clear k9; refine kp [0, 1, 2, 3, 8, 13, 15, 20] ?_
 refine cd (fun hc10 => ?_) (fun hc10 => ?_)
 ·(try simp only [zB, reduceCtorEq] at hc10)
  refine ah hP hN rfl ?_
  iterate 2 (refine ae rfl fun _ k0 => ?_; simp only [zO, zT, acs, reduceCtorEq, V, O, Z, ad, ab, aa]; (repeat refine an ?_); (try refine .inl ?_); apply k0; clear k0; simp only [zP, O])
  refine ae rfl fun _ k0 => ?_
  refine aC (h := au (w4 s c)) rfl rfl (by first | exact rfl | (simp only [ev, zP, V, O]; exact rfl)) (by simp only [zV, acs, reduceCtorEq, V, O, Z, ad, ab, aa]) ?_
  apply k0; clear k0; simp only [zP, O]
  iterate 2 (refine ae rfl fun _ k0 => ?_; simp only [zO, zT, acs, reduceCtorEq, V, O, Z, ad, ab, aa]; (repeat refine an ?_); (try refine .inl ?_); apply k0; clear k0; simp only [zP, O])
  refine ag ?_
  apply k8; clear k8; refine kp [0, 1, 2, 3, 8, 13, 15, 20] ?_
  refine af fun _ k11 => ?_
  rw [show ((Lib.countByte s c : Nat) : Int) + 1 = (spB c s).length by rw [hsl]; omega]
  refine ah hP hN rfl ?_
  iterate 6 (refine ae rfl fun _ k0 => ?_; simp only [zO, zT, acs, reduceCtorEq, V, O, Z, ad, ab, aa]; (repeat refine an ?_); (try refine .inl ?_); apply k0; clear k0; simp only [zP, O])
  refine ag ?_
  apply k11; clear k11; refine kp [0, 1, 2, 3, 8, 13, 15, 20] ?_
  refine af fun _ k12 => ?_
  rw [show min ((spB c s).length : Int) ((s.length : Int) + 1) = (spB c s).length by rw [hsl]; omega]
  refine ah hP hN rfl ?_
  (refine ae rfl fun _ k0 => ?_; simp only [zO, zT, acs, reduceCtorEq, V, O, Z, ad, ab, aa]; (repeat refine an ?_); (try refine .inl ?_); apply k0; clear k0; simp only [zP, O])
  (refine ae rfl fun _ k0 => ?_; simp only [zE, op1, ev, lkp, db, bB, eV, b0, Ty.size, Ty.dflt, reduceCtorEq, V, O, Z, ad, ab, aa, Tryz.el22, Tryz.td22, Tryz.td3]; (repeat refine an ?_); (try refine .inl ?_); apply k0; clear k0; simp only [zP, O])
  (refine ae rfl fun _ k0 => ?_; simp only [zO, zT, acs, reduceCtorEq, V, O, Z, ad, ab, aa]; (repeat refine an ?_); (try refine .inl ?_); apply k0; clear k0; simp only [zP, O])
  refine ag ?_
  apply k12; clear k12; refine kp [0, 1, 2, 3, 8, 9, 13, 15, 20] ?_
  refine af fun _ k13 => ?_
  refine ah hP hN rfl ?_
  iterate 3 (refine ae rfl fun _ k0 => ?_; simp only [zO, zT, acs, reduceCtorEq, V, O, Z, ad, ab, aa]; (repeat refine an ?_); (try refine .inl ?_); apply k0; clear k0; simp only [zP, O])
  refine ag ?_
  apply k13; clear k13; refine kp [0, 1, 2, 3, 8, 9, 13, 15, 20] ?_
  refine af fun _ k14 => ?_
  refine ah hP hN rfl ?_
  (refine ae rfl fun _ k0 => ?_; simp only [zO, zT, acs, reduceCtorEq, V, O, Z, ad, ab, aa]; (repeat refine an ?_); (try refine .inl ?_); apply k0; clear k0; simp only [zP, O])
  refine ag ?_
  apply k14; clear k14; refine kp [0, 1, 2, 3, 8, 9, 10, 13, 15, 20] ?_
  refine af fun _ k15 => ?_
  refine aE ?_
  refine bn (fun n16 s16 => ∃ (k : Nat) (v : Nat) (r : Bs), (k + 1 ≤ (spB c s).length) ∧ (spB c r = (spB c s).drop k) ∧ (r.length ≤ s.length) ∧ n16 = (spB c s).length - k ∧ s16 = { env := [(0, .one (.str r)), (1, .one (.str [c])), (2, .one (.int .i64 0)), (3, .one (.int .i64 (((spB c s).length : Int) - 1))), (8, .one .nils), (9, .one (.row 0 v)), (10, .one (.int .i64 (k : Int)))], L := [.row .str 9 v (pcs (spB c s) k)] }) ?_ ?_
  ·exact ⟨_, _, aB [0, 1, 2, 3, 8, 9, 10], 0, 0, s, by omega, by rw [List.drop_zero], Nat.le_refl _, rfl, by rw [show pcs (spB c s) 0 = List.replicate (spB c s).length [] by unfold pcs; rw [List.take_zero, Nat.sub_zero, ar]]; rfl⟩
  rintro n16 s16 ⟨k, v, r, hk, hr, hrl, rfl, rfl⟩
  refine af fun _ k17 => ?_
  refine af fun _ k18 => ?_
  refine ah hP hN rfl ?_
  iterate 3 (refine ae rfl fun _ k0 => ?_; simp only [zO, zT, acs, reduceCtorEq, V, O, Z, ad, ab, aa]; (repeat refine an ?_); (try refine .inl ?_); apply k0; clear k0; simp only [zP, O])
  refine ag ?_
  apply k18; clear k18; refine kp [0, 1, 2, 3, 8, 9, 10, 36] ?_
  refine cd (fun hc19 => ?_) (fun hc19 => ?_)
  ·(try simp only [zB, reduceCtorEq] at hc19)
   refine ay ?_
   apply k17; clear k17; refine kp [0, 1, 2, 3, 8, 9, 10, 36] ?_
   refine aE ?_
   refine af fun _ k20 => ?_
   obtain ⟨h1, h2, h3, h4⟩ := rr (P := spB c s) hr (by omega)
   have hpl := mK (P := spB c s) (k := k) (by omega)
   refine ah hP hN rfl ?_
   iterate 2 (refine ae rfl fun _ k0 => ?_; simp only [zO, zT, acs, reduceCtorEq, V, O, Z, ad, ab, aa]; (repeat refine an ?_); (try refine .inl ?_); apply k0; clear k0; simp only [zP, O])
   refine ae rfl fun _ k0 => ?_
   refine aC (h := au (wg r c)) rfl rfl (by first | exact rfl | (simp only [ev, zP, V, O]; exact rfl)) (by simp only [zV, acs, reduceCtorEq, V, O, Z, ad, ab, aa]) ?_
   apply k0; clear k0; simp only [zP, O]
   (refine ae rfl fun _ k0 => ?_; simp only [zO, zT, acs, reduceCtorEq, V, O, Z, ad, ab, aa]; (repeat refine an ?_); (try refine .inl ?_); apply k0; clear k0; simp only [zP, O])
   refine ag ?_
   apply k20; clear k20; refine kp [0, 1, 2, 3, 8, 9, 10, 11, 36] ?_
   refine af fun _ k21 => ?_
   refine af fun _ k22 => ?_
   refine ah hP hN rfl ?_
   iterate 2 (refine ae rfl fun _ k0 => ?_; simp only [zO, zT, acs, reduceCtorEq, V, O, Z, ad, ab, aa]; (repeat refine an ?_); (try refine .inl ?_); apply k0; clear k0; simp only [zP, O])
   refine ag ?_
   apply k22; clear k22; refine kp [0, 1, 2, 3, 8, 9, 10, 11, 36, 41] ?_
   refine cd (fun hc23 => ?_) (fun hc23 => ?_)
   · exfalso; (try simp only [zB, reduceCtorEq] at hc23); all_goals (first | (cases hc23; done) | omega | (simp at hc23; done) | (simp_all; done))
   (try simp only [zB, reduceCtorEq] at hc23)
   refine ay ?_
   apply k21; clear k21; refine kp [0, 1, 2, 3, 8, 9, 10, 11, 36, 41] ?_
   refine af fun _ k24 => ?_
   refine ah hP hN rfl ?_
   iterate 6 (refine ae rfl fun _ k0 => ?_; simp only [zO, zT, acs, reduceCtorEq, V, O, Z, ad, ab, aa, Int.add_zero, List.drop_zero, hpl, aN]; (repeat refine an ?_); (try refine .inl ?_); apply k0; clear k0; simp only [zP, O])
   (refine ae rfl fun _ k0 => ?_; simp only [zE, op1, ev, lkp, db, bB, fh, bI, dx, dU, dd, ef, ck, bnd, Ty.size, cO, zG, Ty.dflt, Nat.mul_one, ne_eq, not_false_eq_true, Int.natCast_one, Int.mul_one, d7, bp, bc, b0, acs, reduceCtorEq, V, O, Z, ad, ab, aa, Tryz.el22, Tryz.td22, Tryz.td3, Tryz.td9, Int.add_zero, List.drop_zero, hpl, aN]; (repeat refine an ?_); (try refine .inl ?_); apply k0; clear k0; simp only [zP, O])
   iterate 2 (refine ae rfl fun _ k0 => ?_; simp only [zO, zT, acs, reduceCtorEq, V, O, Z, ad, ab, aa, Int.add_zero, List.drop_zero, hpl, aN]; (repeat refine an ?_); (try refine .inl ?_); apply k0; clear k0; simp only [zP, O])
   refine ag ?_
   apply k24; clear k24; refine kp [0, 1, 2, 3, 8, 9, 10, 11, 36, 41] ?_
   refine af fun _ k25 => ?_
   refine ah hP hN rfl ?_
   iterate 5 (refine ae rfl fun _ k0 => ?_; simp only [zO, zT, acs, reduceCtorEq, V, O, Z, ad, ab, aa, aD]; (repeat refine an ?_); (try refine .inl ?_); apply k0; clear k0; simp only [zP, O])
   (refine ae rfl fun _ k0 => ?_; simp only [zE, op1, ev, lkp, db, bB, cT, j4, iv, cm, cZ, fJ, Nat.div_one, dC, dh, Ty.size, b0, dite_true, fh, bI, dx, dU, dd, ef, ck, bnd, reduceCtorEq, V, O, Z, ad, ab, aa, Tryz.td3, Tryz.td9, aD]; (repeat refine an ?_); (try refine .inl ?_); apply k0; clear k0; simp only [zP, O])
   (refine ae rfl fun _ k0 => ?_; simp only [zO, zT, acs, reduceCtorEq, V, O, Z, ad, ab, aa, aD]; (repeat refine an ?_); (try refine .inl ?_); apply k0; clear k0; simp only [zP, O])
   refine ag ?_
   apply k25; clear k25; refine kp [0, 1, 2, 3, 8, 9, 10, 11, 36, 41] ?_
   refine ah hP hN rfl ?_
   iterate 3 (refine ae rfl fun _ k0 => ?_; simp only [zO, zT, acs, reduceCtorEq, V, O, Z, ad, ab, aa]; (repeat refine an ?_); (try refine .inl ?_); apply k0; clear k0; simp only [zP, O])
   refine ag ?_
   refine ⟨_, _, ?_, aB [0, 1, 2, 3, 8, 9, 10], k + 1, v, r.drop ((Lib.indexByte r c).toNat + 1), by omega, h3, by rw [List.length_drop]; omega, rfl, ?_⟩
   · omega
   · rw [← qF (P := spB c s) (k := k) (by omega) h2]
     rw [show (Lib.indexByte r c + 1).toNat = (Lib.indexByte r c).toNat + 1 by omega]
     rfl
  (try simp only [zB, reduceCtorEq] at hc19)
  refine bh ?_
  apply k15; clear k15; refine kp [0, 1, 2, 3, 8, 9, 10, 36] ?_
  refine af fun _ k26 => ?_
  obtain ⟨g1, g2⟩ := tZ (P := spB c s) hr (by omega)
  have hpl := mK (P := spB c s) (k := k) (by omega)
  have hpk := mK (P := spB c s) (k := k + 1) (by omega)
  have hps := qF (P := spB c s) (k := k) (by omega) g1
  refine ah hP hN rfl ?_
  iterate 5 (refine ae rfl fun _ k0 => ?_; simp only [zO, zT, acs, reduceCtorEq, V, O, Z, ad, ab, aa, hpl, aN]; (repeat refine an ?_); (try refine .inl ?_); apply k0; clear k0; simp only [zP, O])
  refine ag ?_
  apply k26; clear k26; refine kp [0, 1, 2, 3, 8, 9, 10, 36] ?_
  refine af fun _ k27 => ?_
  refine ah hP hN rfl ?_
  iterate 3 (refine ae rfl fun _ k0 => ?_; simp only [zO, zT, acs, reduceCtorEq, V, O, Z, ad, ab, aa, List.length_set, hpl, hps]; (repeat refine an ?_); (try refine .inl ?_); apply k0; clear k0; simp only [zP, O])
  (refine ae rfl fun _ k0 => ?_; simp only [zE, op1, ev, lkp, db, bB, fh, bI, dx, dU, dd, ef, ck, bnd, Ty.size, reduceCtorEq, V, O, Z, ad, ab, aa, Tryz.el22, Tryz.td22, Tryz.td3, List.length_set, hpl, hps]; (repeat refine an ?_); (try refine .inl ?_); apply k0; clear k0; simp only [zP, O])
  (refine ae rfl fun _ k0 => ?_; simp only [zO, zT, acs, reduceCtorEq, V, O, Z, ad, ab, aa, List.length_set, hpl, hps]; (repeat refine an ?_); (try refine .inl ?_); apply k0; clear k0; simp only [zP, O])
  refine ag ?_
  apply k27; clear k27; refine kp [0, 1, 2, 3, 8, 9, 10, 36] ?_
  refine ax ?_
  refine ⟨nr, _, rfl, ?_⟩; simp only [zF, zP, V, O]
  refine VLE.of_eq ?_
  have hke : k + 1 = (spB c s).length := by omega
  rw [show ((k : Int) + 1).toNat = (spB c s).length by omega, hke, vv, aD]
 · exfalso; (try simp only [zB, reduceCtorEq] at hc10); all_goals (first | (cases hc10; done) | omega | (simp at hc10; done) | (simp_all; done))
theorem tg (s : Bs) (c : UInt8) (hs : s.length ≤ 1048576) : bH Tryz.prog 48 [.one (.str s), .one (.str [c])] (.one (.list .str (spB c s))) := by
 refine aR Tryz.func48 rfl (by kernel_rfl) (Nat.le_of_ble_eq_true rfl) rfl fun C hP hN hB => ?_
 replace hN : C.N = 8 := hN
 simp only [aX, O]
 refine af fun _ k1 => ?_
 refine ah hP hN rfl ?_
 (refine ae rfl fun _ k0 => ?_; simp only [zO, zT, acs, reduceCtorEq, V, O, Z, ad, ab, aa]; (repeat refine an ?_); (try refine .inl ?_); apply k0; clear k0; simp only [zP, O])
 refine ag ?_
 apply k1; clear k1; refine kp [0, 1, 4] ?_
 refine af fun _ k2 => ?_
 refine ah hP hN rfl ?_
 iterate 2 (refine ae rfl fun _ k0 => ?_; simp only [zO, zT, acs, reduceCtorEq, V, O, Z, ad, ab, aa]; (repeat refine an ?_); (try refine .inl ?_); apply k0; clear k0; simp only [zP, O])
 refine ae rfl fun _ k0 => ?_
 refine aC (h := au (uf s c hs)) rfl rfl (by first | exact rfl | (simp only [ev, zP, V, O]; exact rfl)) (by simp only [zV, acs, reduceCtorEq, V, O, Z, ad, ab, aa]) ?_
 apply k0; clear k0; simp only [zP, O]
 (refine ae rfl fun _ k0 => ?_; simp only [zO, zT, acs, reduceCtorEq, V, O, Z, ad, ab, aa]; (repeat refine an ?_); (try refine .inl ?_); apply k0; clear k0; simp only [zP, O])
 refine ag ?_
 apply k2; clear k2; refine kp [0, 1, 4] ?_
 refine ax ?_
 refine ⟨nr, _, rfl, ?_⟩; simp only [zF, zP, V, O]
 refine VLE.of_eq ?_
 rfl
set_option maxHeartbeats 1000000 in
theorem sF (r : RS) (s : Bs) (hk : LOK r) (hs : s.length ≤ 900000) : dI Tryz.prog (SH 60 45 3 r) 29 [.one (.ptr 0 0 0 0), .one (.str s)] { av := .one (.int .i64 (bg r s).2), upd := eM (SH 60 45 3 r).length (SH 60 45 3 (bg r s).1), new := (SH 60 45 3 (bg r s).1).drop (SH 60 45 3 r).length, fp := List.range (SH 60 45 3 r).length } := by
 refine dQ _ _ Tryz.func29 rfl (by kernel_rfl) (Nat.le_of_ble_eq_true rfl) (by intro k hk; exact List.mem_range.2 hk) (fun C hP hN hB => ?_)
 replace hB : C.bL.length = (SH 60 45 3 r).length := by rw [hB]; skip
 replace hN : C.N = 46 := hN
 simp only [aX, O]
 refine af fun _ k1 => ?_
 refine ah hP hN rfl ?_
 (refine ae rfl fun _ k0 => ?_; simp only [zO, zT, acs, reduceCtorEq, V, O, Z, ad, ab, aa, Int.toNat_one, Int.reduceToNat, Int.toNat_zero]; (repeat refine And.intro (by first | omega | assumption | exact rfl | exact ⟨by omega, hne (by assumption)⟩) ?_); (try refine .inl ?_); apply k0; clear k0; simp only [zP, O])
 refine ag ?_
 apply k1; clear k1; refine kp [0, 1, 4] ?_
 refine af fun _ k2 => ?_
 refine ah hP hN rfl ?_
 (refine ae rfl fun _ k0 => ?_; simp only [zO, zT, acs, reduceCtorEq, V, O, Z, ad, ab, aa, Int.toNat_one, Int.reduceToNat, Int.toNat_zero]; (repeat refine And.intro (by first | omega | assumption | exact rfl | exact ⟨by omega, hne (by assumption)⟩) ?_); (try refine .inl ?_); apply k0; clear k0; simp only [zP, O])
 refine ae rfl fun _ k0 => ?_
 refine aC (h := au (ub s [10] (by omega))) rfl rfl (by first | exact rfl | (simp only [ev, zP, V, O]; exact rfl)) (by simp only [zV, acs, reduceCtorEq, V, O, Z, ad, ab, aa, Int.toNat_one, Int.reduceToNat, Int.toNat_zero]) ?_
 apply k0; clear k0; simp only [zP, O]
 iterate 5 (refine ae rfl fun _ k0 => ?_; simp only [zO, zT, acs, reduceCtorEq, V, O, Z, ad, ab, aa, Int.toNat_one, Int.reduceToNat, Int.toNat_zero]; (repeat refine And.intro (by first | omega | assumption | exact rfl | exact ⟨by omega, hne (by assumption)⟩) ?_); (try refine .inl ?_); apply k0; clear k0; simp only [zP, O])
 refine ag ?_
 apply k2; clear k2; refine kp [0, 1, 4, 5, 6] ?_
 refine af fun _ k3 => ?_
 refine af fun _ k4 => ?_
 refine ah hP hN rfl ?_
 iterate 2 (refine ae rfl fun _ k0 => ?_; simp only [zO, zT, acs, reduceCtorEq, V, O, Z, ad, ab, aa, Int.toNat_one, Int.reduceToNat, Int.toNat_zero]; (repeat refine And.intro (by first | omega | assumption | exact rfl | exact ⟨by omega, hne (by assumption)⟩) ?_); (try refine .inl ?_); apply k0; clear k0; simp only [zP, O])
 refine ag ?_
 apply k4; clear k4; refine kp [0, 1, 4, 5, 6, 15] ?_
 refine cd (fun hc5 => ?_) (fun hc5 => ?_)
 ·(try simp only [zB, reduceCtorEq] at hc5)
  have hsf : dH s [10] = false := by simpa using hc5
  refine af fun _ k6 => ?_
  refine ah hP hN rfl ?_
  (refine ae rfl fun _ k0 => ?_; simp only [zO, zT, acs, reduceCtorEq, V, O, Z, ad, ab, aa, Int.toNat_one, Int.reduceToNat, Int.toNat_zero]; (repeat refine And.intro (by first | omega | assumption | exact rfl | exact ⟨by omega, hne (by assumption)⟩) ?_); (try refine .inl ?_); apply k0; clear k0; simp only [zP, O])
  refine ag ?_
  apply k6; clear k6; refine kp [0, 1, 4, 5, 6, 15] ?_
  refine ax ?_
  refine ⟨by first | exact .inl rfl | exact .inr rfl, _, rfl, ?_⟩; simp only [zP, V, O, Int.toNat_one, Int.reduceToNat, Int.toNat_zero]
  first
  | (rw [i4 hsf, aH (Nat.le_refl _)]; all_goals exact ⟨rfl, rfl⟩)
  | (rw [jF hsf hcm, aH (Nat.le_refl _)]; all_goals exact ⟨rfl, rfl⟩)
  | (rw [iq hsf hcm hin, aH (Nat.le_refl _)]; all_goals exact ⟨rfl, rfl⟩)
  | (rw [ki hsf hcm hni hr5]
     have hU := aH (L0 := SH 60 45 3 r) (L1 := SH 60 45 3 { (aU r (spB 32 (s.take (s.length - 1)))).1 with rd := (aU r (spB 32 (s.take (s.length - 1)))).1.rd + 1 }) hle
     rw [hU]; all_goals exact ⟨rfl, rfl⟩)
  | (rw [jZ hsf hcm hni hr5]
     have hU := aH (L0 := SH 60 45 3 r) (L1 := SH 60 45 3 { (br r (spB 32 (s.take (s.length - 1)))).1 with rd := (br r (spB 32 (s.take (s.length - 1)))).1.rd + 1 }) hle
     rw [hU]; all_goals exact ⟨rfl, rfl⟩)
 (try simp only [zB, reduceCtorEq] at hc5)
 have hsf : dH s [10] = true := by simpa using hc5
 refine ay ?_
 apply k3; clear k3; refine kp [0, 1, 4, 5, 6, 15] ?_
 refine af fun _ k7 => ?_
 refine af fun _ k8 => ?_
 rw [if_pos hsf]
 have hne : ¬ (s.take (s.length - 1)) = [] → 0 < (((s.take (s.length - 1))).length : Int) := fun e => by have := List.length_pos_iff.2 e; omega
 refine ah hP hN rfl ?_
 iterate 3 (refine ae rfl fun _ k0 => ?_; simp only [zO, zT, acs, reduceCtorEq, V, O, Z, ad, ab, aa, Int.toNat_one, Int.reduceToNat, Int.toNat_zero]; (repeat refine And.intro (by first | omega | assumption | exact rfl | exact ⟨by omega, hne (by assumption)⟩) ?_); (try refine .inl ?_); apply k0; clear k0; simp only [zP, O])
 refine' aA (want := false) 3 rfl (m := 18) (by simp only [zP, V, O]; exact rfl) (by kernel_rfl) rfl rfl rfl rfl rfl (fun hg9 => ?a9) ?b9 ?c9
 case a9 =>
  have hq9 := hg9; (try simp only [zB, reduceCtorEq] at hg9); simp only [zE]
  iterate 3 (refine aQ rfl fun _ k0 => ?_; simp only [zO, zT, acs, reduceCtorEq, V, O, Z, ad, ab, aa, Int.toNat_one, Int.reduceToNat, Int.toNat_zero]; (repeat refine And.intro (by first | omega | assumption | exact rfl | exact ⟨by omega, hne (by assumption)⟩) ?_); (try refine .inl ?_); apply k0; clear k0; simp only [zP, O])
  (refine ae rfl fun _ k0 => ?_; simp only [zO, zT, acs, reduceCtorEq, V, O, Z, ad, ab, aa, Int.toNat_one, Int.reduceToNat, Int.toNat_zero]; (repeat refine And.intro (by first | omega | assumption | exact rfl | exact ⟨by omega, hne (by assumption)⟩) ?_); (try refine .inl ?_); apply k0; clear k0; simp only [zP, O])
  refine ag ?_
  refine ⟨by simp only [zP, V, O]; exact rfl, rfl, ?_, rfl⟩; (repeat refine az rfl ?_); exact aP (by exact rfl) hq9
 case b9 => exact bf
 simp only [aK, aF]
 refine ag ?_
 apply k8; clear k8; refine kp [0, 1, 4, 5, 6, 15, 22] ?_
 refine cd (fun hc10 => ?_) (fun hc10 => ?_)
 ·(try simp only [zB, reduceCtorEq] at hc10)
  have hcm := hc10
  refine af fun _ k11 => ?_
  refine ah hP hN rfl ?_
  (refine ae rfl fun _ k0 => ?_; simp only [zO, zT, acs, reduceCtorEq, V, O, Z, ad, ab, aa, Int.toNat_one, Int.reduceToNat, Int.toNat_zero]; (repeat refine And.intro (by first | omega | assumption | exact rfl | exact ⟨by omega, hne (by assumption)⟩) ?_); (try refine .inl ?_); apply k0; clear k0; simp only [zP, O])
  refine ag ?_
  apply k11; clear k11; refine kp [0, 1, 4, 5, 6, 15, 22] ?_
  refine ax ?_
  refine ⟨by first | exact .inl rfl | exact .inr rfl, _, rfl, ?_⟩; simp only [zP, V, O, Int.toNat_one, Int.reduceToNat, Int.toNat_zero]
  first
  | (rw [i4 hsf, aH (Nat.le_refl _)]; all_goals exact ⟨rfl, rfl⟩)
  | (rw [jF hsf hcm, aH (Nat.le_refl _)]; all_goals exact ⟨rfl, rfl⟩)
  | (rw [iq hsf hcm hin, aH (Nat.le_refl _)]; all_goals exact ⟨rfl, rfl⟩)
  | (rw [ki hsf hcm hni hr5]
     have hU := aH (L0 := SH 60 45 3 r) (L1 := SH 60 45 3 { (aU r (spB 32 (s.take (s.length - 1)))).1 with rd := (aU r (spB 32 (s.take (s.length - 1)))).1.rd + 1 }) hle
     rw [hU]; all_goals exact ⟨rfl, rfl⟩)
  | (rw [jZ hsf hcm hni hr5]
     have hU := aH (L0 := SH 60 45 3 r) (L1 := SH 60 45 3 { (br r (spB 32 (s.take (s.length - 1)))).1 with rd := (br r (spB 32 (s.take (s.length - 1)))).1.rd + 1 }) hle
     rw [hU]; all_goals exact ⟨rfl, rfl⟩)
 (try simp only [zB, reduceCtorEq] at hc10)
 have hcm := hc10
 refine ay ?_
 apply k7; clear k7; refine kp [0, 1, 4, 5, 6, 15, 22] ?_
 refine af fun _ k12 => ?_
 refine ah hP hN rfl ?_
 (refine ae rfl fun _ k0 => ?_; simp only [zO, zT, acs, reduceCtorEq, V, O, Z, ad, ab, aa, Int.toNat_one, Int.reduceToNat, Int.toNat_zero]; (repeat refine And.intro (by first | omega | assumption | exact rfl | exact ⟨by omega, hne (by assumption)⟩) ?_); (try refine .inl ?_); apply k0; clear k0; simp only [zP, O])
 refine ae rfl fun _ k0 => ?_
 refine aC (h := au (tg (s.take (s.length - 1)) 32 (by rw [List.length_take]; omega))) rfl rfl (by first | exact rfl | (simp only [ev, zP, V, O]; exact rfl)) (by simp only [zV, acs, reduceCtorEq, V, O, Z, ad, ab, aa, Int.toNat_one, Int.reduceToNat, Int.toNat_zero]) ?_
 apply k0; clear k0; simp only [zP, O]
 (refine ae rfl fun _ k0 => ?_; simp only [zO, zT, acs, reduceCtorEq, V, O, Z, ad, ab, aa, Int.toNat_one, Int.reduceToNat, Int.toNat_zero]; (repeat refine And.intro (by first | omega | assumption | exact rfl | exact ⟨by omega, hne (by assumption)⟩) ?_); (try refine .inl ?_); apply k0; clear k0; simp only [zP, O])
 refine ag ?_
 apply k12; clear k12; refine kp [0, 1, 4, 5, 6, 7, 15, 22] ?_
 refine af fun _ k13 => ?_
 refine af fun _ k14 => ?_
 refine ah hP hN rfl ?_
 (refine ae rfl fun _ k0 => ?_; simp only [zO, zT, acs, reduceCtorEq, V, O, Z, ad, ab, aa, Int.toNat_one, Int.reduceToNat, Int.toNat_zero]; (repeat refine And.intro (by first | omega | assumption | exact rfl | exact ⟨by omega, hne (by assumption)⟩) ?_); (try refine .inl ?_); apply k0; clear k0; simp only [zP, O])
 refine ae rfl fun _ k0 => ?_
 refine aC (h := au (gO (spB 32 (s.take (s.length - 1))) [])) rfl rfl (by first | exact rfl | (simp only [ev, zP, V, O]; exact rfl)) (by simp only [zV, acs, reduceCtorEq, V, O, Z, ad, ab, aa, Int.toNat_one, Int.reduceToNat, Int.toNat_zero]) ?_
 apply k0; clear k0; simp only [zP, O]
 refine ag ?_
 apply k14; clear k14; refine kp [0, 1, 4, 5, 6, 7, 15, 22, 26] ?_
 refine cd (fun hc15 => ?_) (fun hc15 => ?_)
 ·(try simp only [zB, reduceCtorEq] at hc15)
  have hin := hc15
  refine af fun _ k16 => ?_
  refine ah hP hN rfl ?_
  (refine ae rfl fun _ k0 => ?_; simp only [zO, zT, acs, reduceCtorEq, V, O, Z, ad, ab, aa, Int.toNat_one, Int.reduceToNat, Int.toNat_zero]; (repeat refine And.intro (by first | omega | assumption | exact rfl | exact ⟨by omega, hne (by assumption)⟩) ?_); (try refine .inl ?_); apply k0; clear k0; simp only [zP, O])
  refine ag ?_
  apply k16; clear k16; refine kp [0, 1, 4, 5, 6, 7, 15, 22, 26] ?_
  refine ax ?_
  refine ⟨by first | exact .inl rfl | exact .inr rfl, _, rfl, ?_⟩; simp only [zP, V, O, Int.toNat_one, Int.reduceToNat, Int.toNat_zero]
  first
  | (rw [i4 hsf, aH (Nat.le_refl _)]; all_goals exact ⟨rfl, rfl⟩)
  | (rw [jF hsf hcm, aH (Nat.le_refl _)]; all_goals exact ⟨rfl, rfl⟩)
  | (rw [iq hsf hcm hin, aH (Nat.le_refl _)]; all_goals exact ⟨rfl, rfl⟩)
  | (rw [ki hsf hcm hni hr5]
     have hU := aH (L0 := SH 60 45 3 r) (L1 := SH 60 45 3 { (aU r (spB 32 (s.take (s.length - 1)))).1 with rd := (aU r (spB 32 (s.take (s.length - 1)))).1.rd + 1 }) hle
     rw [hU]; all_goals exact ⟨rfl, rfl⟩)
  | (rw [jZ hsf hcm hni hr5]
     have hU := aH (L0 := SH 60 45 3 r) (L1 := SH 60 45 3 { (br r (spB 32 (s.take (s.length - 1)))).1 with rd := (br r (spB 32 (s.take (s.length - 1)))).1.rd + 1 }) hle
     rw [hU]; all_goals exact ⟨rfl, rfl⟩)
 (try simp only [zB, reduceCtorEq] at hc15)
 have hni := hc15
 refine ay ?_
 apply k13; clear k13; refine kp [0, 1, 4, 5, 6, 7, 15, 22, 26] ?_
 refine af fun _ k17 => ?_
 refine ah hP hN rfl ?_
 (refine ae rfl fun _ k0 => ?_; simp only [zO, zT, acs, reduceCtorEq, V, O, Z, ad, ab, aa, Int.toNat_one, Int.reduceToNat, Int.toNat_zero]; (repeat refine And.intro (by first | omega | assumption | exact rfl | exact ⟨by omega, hne (by assumption)⟩) ?_); (try refine .inl ?_); apply k0; clear k0; simp only [zP, O])
 refine ag ?_
 apply k17; clear k17; refine kp [0, 1, 4, 5, 6, 7, 8, 15, 22, 26] ?_
 refine af fun _ k18 => ?_
 refine af fun _ k19 => ?_
 have hwl : (spB 32 (s.take (s.length - 1))).length ≤ 1000000 := by have := la 32 (s.take (s.length - 1)); rw [List.length_take] at this; omega
 refine ah hP hN rfl ?_
 iterate 5 (refine ae rfl fun _ k0 => ?_; simp only [zO, zT, acs, reduceCtorEq, V, O, Z, ad, ab, aa, Int.toNat_one, Int.reduceToNat, Int.toNat_zero, oZ, rdC]; (repeat refine And.intro (by first | omega | assumption | exact rfl | exact ⟨by omega, hne (by assumption)⟩) ?_); (try refine .inl ?_); apply k0; clear k0; simp only [zP, O])
 refine ag ?_
 apply k19; clear k19; refine kp [0, 1, 4, 5, 6, 7, 8, 15, 22, 26, 31] ?_
 refine cd (fun hc20 => ?_) (fun hc20 => ?_)
 ·(try simp only [zB, reduceCtorEq] at hc20)
  have hr5 := hc20
  have hle := sh (R := 60) (S := 45) (I := 3) (r := r) (fun e => (hk.h3 e).1) (spB 32 (s.take (s.length - 1)))
  have hA := aH hle
  have hS := vl 60 45 3 (aU r (spB 32 (s.take (s.length - 1)))).1
  have hrd : (aU r (spB 32 (s.take (s.length - 1)))).1.rd = r.rd := kI
  have hrl := hk.rl
  refine ah hP hN rfl ?_
  iterate 2 (refine ae rfl fun _ k0 => ?_; simp only [zO, zT, acs, reduceCtorEq, V, O, Z, ad, ab, aa, Int.toNat_one, Int.reduceToNat, Int.toNat_zero]; (repeat refine And.intro (by first | omega | assumption | exact rfl | exact ⟨by omega, hne (by assumption)⟩) ?_); (try refine .inl ?_); apply k0; clear k0; simp only [zP, O, hA])
  refine ae rfl fun _ k0 => ?_
  refine aC (h := vU r (spB 32 (s.take (s.length - 1))) hwl (fm ..) (by omega) hk) rfl rfl (by first | exact rfl | (simp only [ev, zP, V, O]; exact rfl)) (by simp only [zV, acs, reduceCtorEq, V, O, Z, ad, ab, aa, Int.toNat_one, Int.reduceToNat, Int.toNat_zero]) ?_
  apply k0; clear k0; simp only [zP, O, hA]
  (refine ae rfl fun _ k0 => ?_; simp only [zO, zT, acs, reduceCtorEq, V, O, Z, ad, ab, aa, Int.toNat_one, Int.reduceToNat, Int.toNat_zero]; (repeat refine And.intro (by first | omega | assumption | exact rfl | exact ⟨by omega, hne (by assumption)⟩) ?_); (try refine .inl ?_); apply k0; clear k0; simp only [zP, O, hA])
  refine ag ?_
  apply k18; clear k18; refine kp [0, 1, 4, 5, 6, 7, 8, 15, 22, 26, 31] ?_
  refine af fun _ k21 => ?_
  refine ah hP hN rfl ?_
  iterate 8 (refine ae rfl fun _ k0 => ?_; simp only [zO, zT, acs, reduceCtorEq, V, O, Z, ad, ab, aa, Int.toNat_one, Int.reduceToNat, Int.toNat_zero, oZ, rdC]; (repeat refine And.intro (by first | omega | assumption | exact rfl | exact ⟨by omega, hne (by assumption)⟩) ?_); (try refine .inl ?_); apply k0; clear k0; simp only [zP, O, hS])
  refine ag ?_
  apply k21; clear k21; refine kp [0, 1, 4, 5, 6, 7, 8, 15, 22, 26, 31] ?_
  refine af fun _ k22 => ?_
  refine ah hP hN rfl ?_
  iterate 2 (refine ae rfl fun _ k0 => ?_; simp only [zO, zT, acs, reduceCtorEq, V, O, Z, ad, ab, aa, Int.toNat_one, Int.reduceToNat, Int.toNat_zero]; (repeat refine And.intro (by first | omega | assumption | exact rfl | exact ⟨by omega, hne (by assumption)⟩) ?_); (try refine .inl ?_); apply k0; clear k0; simp only [zP, O])
  refine ag ?_
  apply k22; clear k22; refine kp [0, 1, 4, 5, 6, 7, 8, 15, 22, 26, 31] ?_
  refine ax ?_
  refine ⟨by first | exact .inl rfl | exact .inr rfl, _, rfl, ?_⟩; simp only [zP, V, O, Int.toNat_one, Int.reduceToNat, Int.toNat_zero]
  first
  | (rw [i4 hsf, aH (Nat.le_refl _)]; all_goals exact ⟨rfl, rfl⟩)
  | (rw [jF hsf hcm, aH (Nat.le_refl _)]; all_goals exact ⟨rfl, rfl⟩)
  | (rw [iq hsf hcm hin, aH (Nat.le_refl _)]; all_goals exact ⟨rfl, rfl⟩)
  | (rw [ki hsf hcm hni hr5]
     have hU := aH (L0 := SH 60 45 3 r) (L1 := SH 60 45 3 { (aU r (spB 32 (s.take (s.length - 1)))).1 with rd := (aU r (spB 32 (s.take (s.length - 1)))).1.rd + 1 }) hle
     rw [hU]; all_goals exact ⟨rfl, rfl⟩)
  | (rw [jZ hsf hcm hni hr5]
     have hU := aH (L0 := SH 60 45 3 r) (L1 := SH 60 45 3 { (br r (spB 32 (s.take (s.length - 1)))).1 with rd := (br r (spB 32 (s.take (s.length - 1)))).1.rd + 1 }) hle
     rw [hU]; all_goals exact ⟨rfl, rfl⟩)
 (try simp only [zB, reduceCtorEq] at hc20)
 have hr5 := hc20
 have hle := sI (R := 60) (S := 45) (I := 3) (r := r) (hk.h5 (by omega)).1 (spB 32 (s.take (s.length - 1)))
 have hA := aH hle
 have hS := vl 60 45 3 (br r (spB 32 (s.take (s.length - 1)))).1
 have hrd : (br r (spB 32 (s.take (s.length - 1)))).1.rd = r.rd := n7
 have hrl := hk.rl
 refine ah hP hN rfl ?_
 iterate 2 (refine ae rfl fun _ k0 => ?_; simp only [zO, zT, acs, reduceCtorEq, V, O, Z, ad, ab, aa, Int.toNat_one, Int.reduceToNat, Int.toNat_zero]; (repeat refine And.intro (by first | omega | assumption | exact rfl | exact ⟨by omega, hne (by assumption)⟩) ?_); (try refine .inl ?_); apply k0; clear k0; simp only [zP, O, hA])
 refine ae rfl fun _ k0 => ?_
 refine aC (h := wW r (spB 32 (s.take (s.length - 1))) hwl (by omega) hk) rfl rfl (by first | exact rfl | (simp only [ev, zP, V, O]; exact rfl)) (by simp only [zV, acs, reduceCtorEq, V, O, Z, ad, ab, aa, Int.toNat_one, Int.reduceToNat, Int.toNat_zero]) ?_
 apply k0; clear k0; simp only [zP, O, hA]
 (refine ae rfl fun _ k0 => ?_; simp only [zO, zT, acs, reduceCtorEq, V, O, Z, ad, ab, aa, Int.toNat_one, Int.reduceToNat, Int.toNat_zero]; (repeat refine And.intro (by first | omega | assumption | exact rfl | exact ⟨by omega, hne (by assumption)⟩) ?_); (try refine .inl ?_); apply k0; clear k0; simp only [zP, O, hA])
 refine ag ?_
 apply k18; clear k18; refine kp [0, 1, 4, 5, 6, 7, 8, 15, 22, 26, 31] ?_
 refine af fun _ k23 => ?_
 refine ah hP hN rfl ?_
 iterate 8 (refine ae rfl fun _ k0 => ?_; simp only [zO, zT, acs, reduceCtorEq, V, O, Z, ad, ab, aa, Int.toNat_one, Int.reduceToNat, Int.toNat_zero, oZ, rdC]; (repeat refine And.intro (by first | omega | assumption | exact rfl | exact ⟨by omega, hne (by assumption)⟩) ?_); (try refine .inl ?_); apply k0; clear k0; simp only [zP, O, hS])
 refine ag ?_
 apply k23; clear k23; refine kp [0, 1, 4, 5, 6, 7, 8, 15, 22, 26, 31] ?_
 refine af fun _ k24 => ?_
 refine ah hP hN rfl ?_
 iterate 2 (refine ae rfl fun _ k0 => ?_; simp only [zO, zT, acs, reduceCtorEq, V, O, Z, ad, ab, aa, Int.toNat_one, Int.reduceToNat, Int.toNat_zero]; (repeat refine And.intro (by first | omega | assumption | exact rfl | exact ⟨by omega, hne (by assumption)⟩) ?_); (try refine .inl ?_); apply k0; clear k0; simp only [zP, O])
 refine ag ?_
 apply k24; clear k24; refine kp [0, 1, 4, 5, 6, 7, 8, 15, 22, 26, 31] ?_
 refine ax ?_
 refine ⟨by first | exact .inl rfl | exact .inr rfl, _, rfl, ?_⟩; simp only [zP, V, O, Int.toNat_one, Int.reduceToNat, Int.toNat_zero]
 first
 | (rw [i4 hsf, aH (Nat.le_refl _)]; all_goals exact ⟨rfl, rfl⟩)
 | (rw [jF hsf hcm, aH (Nat.le_refl _)]; all_goals exact ⟨rfl, rfl⟩)
 | (rw [iq hsf hcm hin, aH (Nat.le_refl _)]; all_goals exact ⟨rfl, rfl⟩)
 | (rw [ki hsf hcm hni hr5]
    have hU := aH (L0 := SH 60 45 3 r) (L1 := SH 60 45 3 { (aU r (spB 32 (s.take (s.length - 1)))).1 with rd := (aU r (spB 32 (s.take (s.length - 1)))).1.rd + 1 }) hle
    rw [hU]; all_goals exact ⟨rfl, rfl⟩)
 | (rw [jZ hsf hcm hni hr5]
    have hU := aH (L0 := SH 60 45 3 r) (L1 := SH 60 45 3 { (br r (spB 32 (s.take (s.length - 1)))).1 with rd := (br r (spB 32 (s.take (s.length - 1)))).1.rd + 1 }) hle
    rw [hU]; all_goals exact ⟨rfl, rfl⟩)
section
open Go.RowKit
def XP (N b : Nat) : Prop := b ≤ N + 8 ∧ b ≠ N + 3
structure Chg (j : Nat) (W W' : World) : Prop where
  size : W.heap.size ≤ W'.heap.size
  same : ∀ b, b ≠ j → b < W.heap.size → W'.heap[b]? = W.heap[b]?
  os : W'.os = W.os
  tape : W'.tape = W.tape
  output : W'.output = W.output
theorem jC (W : World) (j : Nat) (o : Obj) : Chg j W (W.putObj j o) := ⟨by simp, fun b hb _ => World.putObj_heap_other hb, rfl, rfl, rfl⟩
theorem eL (W : World) (j : Nat) (v : Value) : Chg j W (W.setCell ⟨j, 0, none⟩ v) := by
  have h := (Below.refl j W).setCell (p := ⟨j, 0, none⟩) (Nat.le_refl _) v
  exact ⟨h.size, fun b hb _ => Below.heap_setCell W ⟨j, 0, none⟩ v b hb, h.os, h.tape, h.output⟩
theorem Chg.boxed {j B : Nat} {W W' : World} {t : TypeId} {v : Value} (h : Chg j W W') (hb : Boxed W B t v) (hne : B ≠ j) : Boxed W' B t v := (h.same B hne hb.lt).trans hb
theorem Chg.below {j B : Nat} {w W W' : World} (h : Chg j W W') (hb : Below B w W) (hB : B ≤ w.heap.size) (hj : B ≤ j) : Below B w W' :=
  ⟨h.os.trans hb.os, h.tape.trans hb.tape, h.output.trans hb.output, Nat.le_trans hb.size h.size, fun k hk => (h.same k (by omega) (by have := hb.size; omega)).trans (hb.block k hk)⟩
def zmC : Array Value := #[.string ⟨#[]⟩, .slice none 0 0, .slice none 0 0, .int .i64 0, .int .i64 0, .slice none 0 0, .slice none 0 0]
structure PS (w : World) (last : Int) (W : World) : Prop where
  bl : Below w.heap.size w W
  b2 : W.heap[w.heap.size]? = some (.cells zmC 29 (0, 0))
  b3 : Boxed W (w.heap.size + 1) 3 (.int .i64 0)
  b4 : Boxed W (w.heap.size + 2) 32 (.int .i64 0)
  b5 : Boxed W (w.heap.size + 4) 58 (.pointer (some ⟨w.heap.size + 3, 0, none⟩))
  b6 : Boxed W (w.heap.size + 5) 3 (.int .i64 last)
  sz : w.heap.size + 8 < W.heap.size
def HS (N : Nat) (r : RS) (W : World) : Prop := ∃ σ, ll Tryz.prog (XP N) (SH 60 45 3 r) σ W ∧ RC (ep Tryz.prog (XP N) W) (SH 60 45 3 r) σ W (.ptr 0 0 0 0) (.pointer (some ⟨N + 3, 0, none⟩))
theorem pD {w W W' : World} {last : Int} {j : Nat} (h : PS w last W) (hc : Chg j W W') (hj : w.heap.size + 5 < j) : PS w last W' :=
  ⟨hc.below h.bl (Nat.le_refl _) (by omega), (hc.same _ (by omega) (by have := h.sz; omega)).trans h.b2, hc.boxed h.b3 (by omega), hc.boxed h.b4 (by omega), hc.boxed h.b5 (by omega), hc.boxed h.b6 (by omega), Nat.lt_of_lt_of_le h.sz hc.size⟩
theorem mj {N : Nat} {W W' : World} {r : RS} {j : Nat} (h : HS N r W) (hc : Chg j W W') (hj : XP N j) (hz : N + 8 < W.heap.size) : HS N r W' := by
  obtain ⟨σ, h1, h2⟩ := h
  obtain ⟨g1, g2⟩ := sS (X' := XP N) h1 hc.size (fun b hb hx => hc.same b (fun e => hx (e ▸ hj)) hb) (fun b hb _ => hb) (fun b hb => by have := hc.size; have := hb.1; omega)
  exact ⟨σ, g1, g2 _ _ h2⟩
def IPs (s : Bs) (w : World) (k : Nat) (W : World) : Prop := PS w (k : Int) W ∧ Boxed W (w.heap.size + 6) 9 (.string ⟨(aW s k).toArray⟩) ∧ HS w.heap.size (bV s k) W ∧ OKR s k
def IYs (s : Bs) (w : World) (k : Nat) (W : World) : Prop := PS w ((k + 1 : Nat) : Int) W ∧ Boxed W (w.heap.size + 6) 9 (.string ⟨(aW s k).toArray⟩) ∧ HS w.heap.size (bV s (k + 1)) W ∧ OKR s (k + 1)
structure IXs (s : Bs) (w : World) (k : Nat) (W : World) : Prop where
  bl : Below w.heap.size w W
  b2 : W.heap[w.heap.size]? = some (.cells zmC 29 (0, 0))
  b3 : Boxed W (w.heap.size + 1) 3 (.int .i64 ((k : Int) + 1))
  b4 : Boxed W (w.heap.size + 2) 32 (.int .i64 (bg (bV s k) (cg s k)).2)
  e0 : ¬ (bg (bV s k) (cg s k)).2 = 0
  ok : OKR s k
theorem uN {s : Bs} {w W : World} {k : Nat} {o : Obj} (h : IPs s w k W) : IPs s w k (W.putObj (w.heap.size + 8) o) := by
  obtain ⟨h1, h2, h3, h4⟩ := h
  have hc := jC W (w.heap.size + 8) o
  exact ⟨pD h1 hc (by omega), hc.boxed h2 (by omega), mj h3 hc ⟨Nat.le_refl _, by omega⟩ h1.sz, h4⟩
theorem vD {s : Bs} {w W : World} {k : Nat} {o : Obj} (h : IYs s w k W) : IYs s w k (W.putObj (w.heap.size + 8) o) := by
  obtain ⟨h1, h2, h3, h4⟩ := h
  have hc := jC W (w.heap.size + 8) o
  exact ⟨pD h1 hc (by omega), hc.boxed h2 (by omega), mj h3 hc ⟨Nat.le_refl _, by omega⟩ h1.sz, h4⟩
theorem vw {s : Bs} {w W : World} {k : Nat} {o : Obj} (h : IXs s w k W) (hz : w.heap.size + 8 < W.heap.size) : IXs s w k (W.putObj (w.heap.size + 8) o) := by
  have hc := jC W (w.heap.size + 8) o
  exact ⟨hc.below h.bl (Nat.le_refl _) (by omega), (hc.same _ (by omega) (by omega)).trans h.b2, hc.boxed h.b3 (by omega), hc.boxed h.b4 (by omega), h.e0, h.ok⟩
theorem ta {s : Bs} {w W : World} {k : Nat} (h : IYs s w k W) : IPs s w (k + 1) (W.setCell ⟨w.heap.size + 6, 0, none⟩ (.string ⟨(aW s (k + 1)).toArray⟩)) := by
  obtain ⟨h1, h2, h3, h4⟩ := h
  have hc := eL W (w.heap.size + 6) (.string ⟨(aW s (k + 1)).toArray⟩)
  exact ⟨pD h1 hc (by omega), h2.set _, mj h3 hc ⟨by omega, by omega⟩ h1.sz, h4⟩
def LQ (s : Bs) (w : World) (k : Nat) (e : Ending) (W : World) : Prop :=
  e = .returned (.int .i64 (bg (bV s k) (cg s k)).2) ∧ PS w (k : Int) W ∧ Boxed W (w.heap.size + 6) 9 (.string ⟨(aW s k).toArray⟩) ∧ HS w.heap.size (bV s (k + 1)) W
theorem w5 (r r' : RS) (v : AV) (hle : (SH 60 45 3 r).length ≤ (SH 60 45 3 r').length) : app (SH 60 45 3 r) { av := v, upd := eM (SH 60 45 3 r).length (SH 60 45 3 r'), new := (SH 60 45 3 r').drop (SH 60 45 3 r).length, fp := List.range (SH 60 45 3 r).length } = SH 60 45 3 r' := aH hle
theorem qf {s : Bs} {w W : World} {k : Nat} (hs : s.length ≤ 900000) (h : IPs s w k W) (hne : aW s k ≠ []) :
    Calls Tryz.prog 29 #[.pointer (some ⟨w.heap.size + 3, 0, none⟩), .string ⟨(cg s k).toArray⟩] W fun e W' => LQ s w k e W' ∧ W'.heap[w.heap.size + 7]? = W.heap[w.heap.size + 7]? ∧ W'.heap[w.heap.size + 8]? = W.heap[w.heap.size + 8]? := by
  obtain ⟨h1, h2, ⟨σ, h3, h4⟩, h5⟩ := h
  obtain ⟨r1, r2, r3⟩ := mn (by omega : s.length ≤ 1048576) h5
  have hlk := w6 r1 (by omega)
  have hll : (cg s k).length ≤ 900000 := by unfold cg; have := rb s k; rw [List.length_take]; omega
  refine (ry (sF (bV s k) (cg s k) hlk hll) h3 (vs := [.pointer (some ⟨w.heap.size + 3, 0, none⟩), .string ⟨(cg s k).toArray⟩]) ⟨h4, ⟨rfl, rfl⟩, trivial⟩).mono fun e W' hh => ?_
  obtain ⟨v, σ', he, g1, g2, g3, g4⟩ := hh
  rw [w5 _ _ _ (x3 hlk _)] at g1 g2 g4
  have hv : v = .int .i64 (bg (bV s k) (cg s k)).2 := g2.2
  subst hv
  have hsame : ∀ b, XP w.heap.size b → W'.heap[b]? = W.heap[b]? := g3.same
  have hbx : ∀ {B : Nat} {t : TypeId} {v : Value}, XP w.heap.size B → Boxed W B t v → Boxed W' B t v := fun hB hb => (hsame _ hB).trans hb
  have hz := h1.sz
  refine ⟨⟨he, ⟨⟨g3.os.trans h1.bl.os, g3.tape.trans h1.bl.tape, g3.output.trans h1.bl.output, Nat.le_trans h1.bl.size g3.size, fun b hb => (hsame b ⟨by omega, by omega⟩).trans (h1.bl.block b hb)⟩, (hsame _ ⟨by omega, by omega⟩).trans h1.b2, hbx ⟨by omega, by omega⟩ h1.b3, hbx ⟨by omega, by omega⟩ h1.b4, hbx ⟨by omega, by omega⟩ h1.b5, hbx ⟨by omega, by omega⟩ h1.b6, Nat.lt_of_lt_of_le hz g3.size⟩,
    hbx ⟨by omega, by omega⟩ h2, ⟨σ', g1, g4 _ _ h4⟩⟩, hsame _ ⟨by omega, by omega⟩, hsame _ ⟨by omega, by omega⟩⟩
theorem li : ∀ (os : List Obj) (w : World) (k : Nat), k < w.heap.size → (os.foldl (fun W o => W.alloc o) w).heap[k]? = w.heap[k]?
  | [], _, _, _ => rfl
  | o :: os, w, k, h => (li os (w.alloc o) k (by simp; omega)).trans (Below.heap_alloc w o k h)
theorem lQ : ∀ (os : List Obj) (w : World) (i : Nat), i < os.length → (os.foldl (fun W o => W.alloc o) w).heap[w.heap.size + i]? = os[i]?
  | o :: os, w, 0, _ => (li os (w.alloc o) w.heap.size (by simp)).trans (World.alloc_heap_new w o)
  | o :: os, w, i + 1, h => by
    have := lQ os (w.alloc o) i (by simpa using h)
    rw [World.size_alloc, show w.heap.size + 1 + i = w.heap.size + (i + 1) by omega] at this
    exact this
theorem gE : ∀ (os : List Obj) (w : World), (os.foldl (fun W o => W.alloc o) w).heap.size = w.heap.size + os.length
  | [], _ => rfl
  | o :: os, w => by
    have := gE os (w.alloc o)
    rw [World.size_alloc] at this
    simp only [List.foldl_cons, ak]; omega
theorem j5 : ∀ (os : List Obj) (w : World), Below w.heap.size w (os.foldl (fun W o => W.alloc o) w)
  | [], w => Below.refl _ w
  | o :: os, w => ((Below.refl _ w).alloc (Nat.le_refl _) o).trans ((j5 os (w.alloc o)).mono (by simp))
def rdZ : List Value := [.string ⟨#[]⟩, .slice none 0 0, .slice none 0 0, .int .i64 0, .int .i64 0, .slice none 0 0, .slice none 0 0, .slice none 0 0, .int .i64 0, .int .i64 0]
theorem ud {N : Nat} {W : World} (hb : W.heap[N + 3]? = some (.cells rdZ.toArray 60 (0, 0))) (hz : N + 8 < W.heap.size) : HS N rs0 W := by
  refine ⟨fun _ => .pointer (some ⟨N + 3, 0, none⟩), ⟨fun o ob e => ?_, fun o o' b h h' => ?_, fun o b h => ?_, fun b h => h.elim, fun b h => by have := h.1; show b < W.heap.size; omega, Nat.le_refl _, rfl, rfl, rfl⟩, rfl, _, oZ _ _ _ _, Nat.le_refl _, fun _ _ => ⟨_, rfl, rfl⟩⟩
  · have h0 : o = 0 ∧ ob = .vars 60 (rdC rs0 .nils .nils) := by
      cases o with
      | zero => exact ⟨rfl, (Option.some.inj e).symm⟩
      | succ o => cases e
    obtain ⟨rfl, rfl⟩ := h0
    refine ⟨N + 3, rdZ, rfl, hb, ?_⟩
    exact ⟨⟨rfl, rfl⟩, ⟨rfl, bT _⟩, ⟨rfl, bT _⟩, ⟨rfl, rfl⟩, ⟨rfl, rfl⟩, ⟨rfl, rfl⟩, ⟨rfl, rfl⟩, ⟨rfl, bT _⟩, ⟨rfl, rfl⟩, ⟨rfl, rfl⟩, trivial⟩
  · obtain ⟨ob, e, _, _⟩ := h
    obtain ⟨ob', e', _, _⟩ := h'
    have q : ∀ {o ob}, (SH 60 45 3 rs0)[o]? = some ob → o = 0 := fun {o ob} e => by
      cases o with
      | zero => rfl
      | succ o => cases e
    rw [q e, q e']
  · obtain ⟨ob, _, _, e⟩ := h
    have e2 : some (N + 3) = some b := e
    cases e2
    exact ⟨fun h => h, fun h => h.2 rfl⟩
def ke (s : Bs) (N : Nat) : List Obj := [.cells zmC 29, .cells #[.int .i64 0] 3, .cells #[.int .i64 0] 32, .cells rdZ.toArray 60, .cells #[.pointer (some ⟨N + 3, 0, none⟩)] 58, .cells #[.int .i64 0] 3, .cells #[.string ⟨s.toArray⟩] 9]
theorem ru (s : Bs) (w : World) (d l : Obj) : IPs s w 0 ((((ke s w.heap.size).foldl (fun W o => W.alloc o) w).alloc d).alloc l) := by
  have e : (((ke s w.heap.size).foldl (fun W o => W.alloc o) w).alloc d).alloc l = (ke s w.heap.size ++ [d, l]).foldl (fun W o => W.alloc o) w := by rw [List.foldl_append]; rfl
  rw [e]
  have hg := fun i hi => lQ (ke s w.heap.size ++ [d, l]) w i hi
  have hz := gE (ke s w.heap.size ++ [d, l]) w
  have hl : (ke s w.heap.size ++ [d, l]).length = 9 := rfl
  rw [hl] at hz hg
  exact ⟨⟨j5 _ w, hg 0 (by decide), hg 1 (by decide), hg 2 (by decide), hg 4 (by decide), hg 5 (by decide), by omega⟩, hg 6 (by decide), ud (hg 3 (by decide)) (by omega), fun j hj => by omega⟩
theorem j3 {F : Fence} {n : Nat} {P : Program} {ops : Array Oper} {rest : List Oper} {o : Oper} {a : Act} {w : World} {Q : Go.Exit → Act → World → Prop} (hgd : o.guard = none) (ty : TypeId) (x y : Operand) (ho : o.op = .store ty x y)
    (g : Nat) (cells : Array Value) (hx : a.eval x = .pointer (some ⟨g, 0, none⟩)) (hy : a.eval y = .agg cells)
    (t : TypeId) (old : Array Value) (hg : w.heap[g]? = some (.cells old t (0, 0))) (hi : (P.info? ty).map (·.size) = some cells.size)
    (hold : old.size = cells.size) (h1 : cells.all (·.oneCell') = true)
    (h : wpListIn F n P ops Q rest (a.put o.dst undef) (w.setRow g cells)) : wpListIn F n P ops Q (o :: rest) a w := by
  refine wpListIn_plain hgd fun K hK' => ?_
  unfold Oper.wpIn
  refine ⟨?_, ?_⟩
  · simp [Oper.about, ho]
  · rw [Oper.semAt_plain F _ _ (by rw [ho]; intro c hc'; cases hc')]
    unfold execOp
    simp only [ho, hx, hy, Instr.storeAt, Instr.sureAddr, Sem.run_bind, Sem.run_pure, Result.andThen_ok, run_storeVar_row w g t ty old cells hg hi hold h1]
    exact hK' _ _ h
theorem qz (W : World) (N : Nat) (cs : Array Value) : Chg N W (W.setRow N cs) := ⟨by simp [World.setRow], fun b hb _ => setRow_other W N b cs hb, rfl, rfl, rfl⟩
theorem jd {F : Fence} {n : Nat} {P : Program} {ops : Array Oper} {rest : List Oper} {o : Oper} {a : Act} {w : World} {Q : Go.Exit → Act → World → Prop} (hgd : o.guard = none) (ty : TypeId) (x y : Operand) (ho : o.op = .store ty x y)
    (g : Nat) (cells : Array Value) (hx : a.eval x = .pointer (some ⟨g, 0, none⟩)) (hy : a.eval y = .agg cells)
    (t : TypeId) (old : Array Value) (hg : w.heap[g]? = some (.cells old t (0, 0))) (hi : (P.info? ty).map (·.size) = some cells.size)
    (hold : old.size = cells.size) (h1 : cells.all (·.oneCell') = true) {t3 t4 : TypeId} {v3 v4 : Value} (b3 : Boxed w (g + 1) t3 v3) (b4 : Boxed w (g + 2) t4 v4)
    (h : ∀ W', (Chg g w W' ∧ W'.heap[g]? = some (.cells cells t (0, 0)) ∧ Boxed W' (g + 1) t3 v3 ∧ Boxed W' (g + 2) t4 v4) ∧ W'.cell? ⟨g + 1, 0, none⟩ = some v3 ∧ W'.frozen? ⟨g + 1, 0, none⟩ = false ∧ W'.cell? ⟨g + 1 + 1, 0, none⟩ = some v4 ∧ W'.frozen? ⟨g + 1 + 1, 0, none⟩ = false → wpListIn F n P ops Q rest (a.put o.dst undef) W') : wpListIn F n P ops Q (o :: rest) a w := by
  refine j3 hgd ty x y ho g cells hx hy t old hg hi hold h1 (h _ ?_)
  have hc := qz w g cells
  have c3 := hc.boxed b3 (by omega)
  have c4 := hc.boxed b4 (by omega)
  exact ⟨⟨hc, setRow_heap w g _ _ t _ hg, c3, c4⟩, c3.cell, c3.frozen, c4.cell, c4.frozen⟩
theorem zm1 : zmC.all (·.oneCell') = true := by simp [zmC, Value.oneCell']
theorem we {s : Bs} {w W W2 : World} {k : Nat} (hp : PS w (k : Int) W2) (hbx : Boxed W2 (w.heap.size + 6) 9 (.string ⟨(aW s k).toArray⟩)) (hhs : HS w.heap.size (bV s (k + 1)) W2) (hok : OKR s k) (hne : aW s k ≠ []) (he : (bg (bV s k) (cg s k)).2 = 0)
    (hd : W2.heap[w.heap.size + 7]? = W.heap[w.heap.size + 7]?) (hl : W2.heap[w.heap.size + 8]? = W.heap[w.heap.size + 8]?) :
    ((W2.setCell ⟨w.heap.size + 5, 0, none⟩ (.int .i64 ((k : Int) + 1))).heap[w.heap.size + 7]? = W.heap[w.heap.size + 7]? ∧ (W2.setCell ⟨w.heap.size + 5, 0, none⟩ (.int .i64 ((k : Int) + 1))).heap[w.heap.size + 7 + 1]? = W.heap[w.heap.size + 7 + 1]?) ∧
      IYs s w k (W2.setCell ⟨w.heap.size + 5, 0, none⟩ (.int .i64 ((k : Int) + 1))) := by
  have hc := eL W2 (w.heap.size + 5) (.int .i64 ((k : Int) + 1))
  have hz := hp.sz
  refine ⟨⟨(hc.same _ (by omega) (by omega)).trans hd, (hc.same _ (by omega) (by omega)).trans hl⟩, ⟨hc.below hp.bl (Nat.le_refl _) (by omega), (hc.same _ (by omega) (by omega)).trans hp.b2, hc.boxed hp.b3 (by omega), hc.boxed hp.b4 (by omega), hc.boxed hp.b5 (by omega), hp.b6.set _, Nat.lt_of_lt_of_le hz hc.size⟩,
    hc.boxed hbx (by omega), mj hhs hc ⟨by omega, by omega⟩ hz, tw hok hne he⟩
theorem wa {s : Bs} {w W W2 W3 : World} {k : Nat} (hp : PS w (k : Int) W2) (hok : OKR s k) (he : ¬ (bg (bV s k) (cg s k)).2 = 0)
    (hd : W2.heap[w.heap.size + 7]? = W.heap[w.heap.size + 7]?) (hl : W2.heap[w.heap.size + 8]? = W.heap[w.heap.size + 8]?)
    (h3 : Chg w.heap.size W2 W3 ∧ W3.heap[w.heap.size]? = some (.cells zmC 29 (0, 0)) ∧ Boxed W3 (w.heap.size + 1) 3 (.int .i64 0) ∧ Boxed W3 (w.heap.size + 2) 32 (.int .i64 0)) :
    (((W3.setCell ⟨w.heap.size + 1, 0, none⟩ (.int .i64 ((k : Int) + 1))).setCell ⟨w.heap.size + 1 + 1, 0, none⟩ (.int .i64 (bg (bV s k) (cg s k)).2)).heap[w.heap.size + 7]? = W.heap[w.heap.size + 7]? ∧
      ((W3.setCell ⟨w.heap.size + 1, 0, none⟩ (.int .i64 ((k : Int) + 1))).setCell ⟨w.heap.size + 1 + 1, 0, none⟩ (.int .i64 (bg (bV s k) (cg s k)).2)).heap[w.heap.size + 7 + 1]? = W.heap[w.heap.size + 7 + 1]?) ∧
      IXs s w k ((W3.setCell ⟨w.heap.size + 1, 0, none⟩ (.int .i64 ((k : Int) + 1))).setCell ⟨w.heap.size + 1 + 1, 0, none⟩ (.int .i64 (bg (bV s k) (cg s k)).2)) := by
  obtain ⟨hc, h4, h5, h6⟩ := h3
  have hc1 := eL W3 (w.heap.size + 1) (.int .i64 ((k : Int) + 1))
  have hc2 := eL (W3.setCell ⟨w.heap.size + 1, 0, none⟩ (.int .i64 ((k : Int) + 1))) (w.heap.size + 1 + 1) (.int .i64 (bg (bV s k) (cg s k)).2)
  have hz := hp.sz
  have s3 := hc.size
  have s4 := hc1.size
  have hall : ∀ b, b ≠ w.heap.size → b ≠ w.heap.size + 1 → b ≠ w.heap.size + 1 + 1 → b < W2.heap.size → ((W3.setCell ⟨w.heap.size + 1, 0, none⟩ (.int .i64 ((k : Int) + 1))).setCell ⟨w.heap.size + 1 + 1, 0, none⟩ (.int .i64 (bg (bV s k) (cg s k)).2)).heap[b]? = W2.heap[b]? :=
    fun b q1 q2 q3 q4 => (hc2.same b q3 (by omega)).trans ((hc1.same b q2 (by omega)).trans (hc.same b q1 q4))
  refine ⟨⟨(hall _ (by omega) (by omega) (by omega) (by omega)).trans hd, (hall _ (by omega) (by omega) (by omega) (by omega)).trans hl⟩, ?_, ?_, ?_, ?_, he, hok⟩
  · exact hc2.below (hc1.below (hc.below hp.bl (Nat.le_refl _) (Nat.le_refl _)) (Nat.le_refl _) (by omega)) (Nat.le_refl _) (by omega)
  · exact (hc2.same _ (by omega) (by omega)).trans ((hc1.same _ (by omega) (by omega)).trans h4)
  · exact hc2.boxed (h5.set _) (by omega)
  · exact Boxed.set (B := w.heap.size + 1 + 1) _ (hc1.boxed h6 (by omega))
theorem tB {N : Nat} {r : RS} {W : World} (h : HS N r W) : ∃ v1 v2 v5 v6 v7, W.heap[N + 3]? = some (.cells #[.string ⟨r.nm.toArray⟩, v1, v2, .int .i64 r.inp, .int .i64 r.st, v5, v6, v7, .int .i64 (r.rd : Int), .int .i64 r.lf] 60 (0, 0)) ∧
    (v1.oneCell' = true ∧ v2.oneCell' = true ∧ v5.oneCell' = true ∧ v6.oneCell' = true) ∧
    (r.tb = true → Dat (XP N) W (.list .str) r.ins [v1] ∧ Dat (XP N) W (.list .str) r.outs [v2] ∧ Dat (XP N) W (.list (.list (.int .i64))) r.nx [v5] ∧ Dat (XP N) W (.list (.list (.int .i64))) r.ot [v6]) := by
  obtain ⟨σ, h1, h2⟩ := h
  obtain ⟨b, vs, e1, e2, e3⟩ := h1.ob 0 _ (oZ ..)
  obtain ⟨_, ob, q1, _, q3⟩ := h2
  rw [oZ] at q1; cases q1
  obtain ⟨b', q4, q5⟩ := q3 rfl rfl
  rw [e1] at q4
  have q6 : b = b' := by simpa [blk] using q4
  subst q6
  have q7 : b = N + 3 := by simpa using q5.symm
  subst q7
  have hav : ∀ o b, own (SH 60 45 3 r) σ o b → ¬ XP N b := fun o b ho => (h1.off o b ho).2
  have hk : ∀ {t : Ty} {d : t.den} {cs : List Value}, Dat (avd (ep Tryz.prog (XP N) W) (SH 60 45 3 r) σ) W t d cs → Dat (XP N) W t d cs := fun h => h.keep (Nat.le_refl _) (fun _ _ _ => rfl) fun b _ hb => .inl hb
  match vs, e3 with
  | [a0, a1, a2, a3, a4, a5, a6, a7, a8, a9], ⟨g0, g1, g2, g3, g4, g5, g6, g7, g8, g9, _⟩ =>
  obtain rfl : a0 = .string ⟨r.nm.toArray⟩ := g0.2
  obtain rfl : a3 = .int .i64 r.inp := g3.2
  obtain rfl : a4 = .int .i64 r.st := g4.2
  obtain rfl : a8 = .int .i64 (r.rd : Int) := g8.2
  obtain rfl : a9 = .int .i64 r.lf := g9.2
  refine ⟨a1, a2, a5, a6, a7, e2, ⟨g1.1, g2.1, g5.1, g6.1⟩, fun ht => ⟨hk g1.2, hk g2.2, ?_, ?_⟩⟩
  · have hA : rdA r = .rwc 1 0 := by unfold rdA; rw [if_pos ht]
    rw [hA] at g5
    obtain ⟨_, ob, p1, _, p3⟩ := g5
    rw [fk ht, sH] at p1; cases p1
    obtain ⟨_, p4⟩ := p3 rfl rfl
    rw [p4]
    exact om h1 (by rw [fk ht]; exact sH ..) (fun i hi => by rw [fk ht]; exact wL hi) hav
  · have hB : rdB r = .rwc (2 + r.nx.length) 0 := by unfold rdB; rw [if_pos ht]
    rw [hB] at g6
    obtain ⟨_, ob, p1, _, p3⟩ := g6
    rw [fk ht, uI] at p1; cases p1
    obtain ⟨_, p4⟩ := p3 rfl rfl
    rw [p4]
    exact om h1 (by rw [fk ht]; exact uI ..) (fun i hi => by rw [fk ht]; exact wH hi) hav
theorem lr {F : Fence} {n : Nat} {P : Program} {o : Oper} {a : Act} {w : World} {K : Act → World → Prop} {Q : Go.Exit → Act → World → Prop} (ty : TypeId) (x y : Operand) (ho : o.op = .store ty x y)
    (g : Nat) (cells : Array Value) (hx : a.eval x = .pointer (some ⟨g, 0, none⟩)) (hy : a.eval y = .agg cells)
    (t : TypeId) (old : Array Value) (hg : w.heap[g]? = some (.cells old t (0, 0))) (hi : (P.info? ty).map (·.size) = some cells.size)
    (hold : old.size = cells.size) (h1 : cells.all (·.oneCell') = true)
    (h : ∀ W', Chg g w W' → W'.heap[g]? = some (.cells cells t (0, 0)) → K (a.put o.dst undef) W') : Oper.wpIn F n P o a w K Q := by
  unfold Oper.wpIn
  refine ⟨?_, ?_⟩
  · simp [Oper.about, ho]
  · rw [Oper.semAt_plain F _ _ (by rw [ho]; intro c hc'; cases hc')]
    unfold execOp
    simp only [ho, hx, hy, Instr.storeAt, Instr.sureAddr, Sem.run_bind, Sem.run_pure, Result.andThen_ok, run_storeVar_row w g t ty old cells hg hi hold h1]
    exact h _ (qz w g cells) (setRow_heap w g _ _ t _ hg)
def MpQ (s : Bs) (w : World) (e : Ending) (W' : World) : Prop :=
  ∃ us : List Value, e = .returned (.tuple #[.agg us.toArray, .int .i64 (PM s).2.1, .int .i64 (PM s).2.2]) ∧ Below w.heap.size w W' ∧ ∀ C L σ, (∀ b, avd C L σ b → b < w.heap.size) → aV (RC C L σ W') (PM s).1.cs us
theorem nY {F : Fence} {n : Nat} {s : Bs} {w W : World} {tmps : Array Value} {v0 v1 v2 v3 v4 v5 v6 : Value} {i er : Int}
    (t2 : tmps.getD 2 undef = .pointer (some ⟨w.heap.size, 0, none⟩)) (t3 : tmps.getD 3 undef = .pointer (some ⟨w.heap.size + 1, 0, none⟩)) (t4 : tmps.getD 4 undef = .pointer (some ⟨w.heap.size + 2, 0, none⟩))
    (hb : Below w.heap.size w W) (c2 : W.heap[w.heap.size]? = some (.cells #[v0, v1, v2, v3, v4, v5, v6] 29 (0, 0))) (c3 : Boxed W (w.heap.size + 1) 3 (.int .i64 i)) (c4 : Boxed W (w.heap.size + 2) 32 (.int .i64 er))
    (hD : W.heap[w.heap.size + 7]? = some (.deferred (some []))) (hpm : (PM s).2 = (i, er))
    (hcs : ∀ W', W.heap.size ≤ W'.heap.size → (∀ b, b < W.heap.size → ¬ XP w.heap.size b → W'.heap[b]? = W.heap[b]?) → ∀ C L σ, (∀ b, avd C L σ b → b < w.heap.size) → aV (RC C L σ W') (PM s).1.cs [v0, v1, v2, v3, v4, v5, v6]) :
    bodyPostM F n Tryz.prog Tryz.f11 (MpQ s w) .ret { tmps := tmps, defers := [{ target := .collected (w.heap.size + 7), args := #[] }] } W := by
  have hc := jC W (w.heap.size + 7) (.deferred none)
  have hlt := (Array.getElem?_eq_some_iff.1 hD).1
  have g2 := (hc.same w.heap.size (by omega) (by omega)).trans c2
  have g3 := hc.boxed c3 (by omega)
  have g4 := hc.boxed c4 (by omega)
  refine ⟨by simp, .inl ⟨_, _, rfl, run_takeDeferred hD, ?_⟩⟩
  refine ⟨.tuple #[.agg #[v0, v1, v2, v3, v4, v5, v6], .int .i64 i, .int .i64 er], ?_, [v0, v1, v2, v3, v4, v5, v6], by rw [hpm], hc.below hb (Nat.le_refl _) (by omega), fun C L σ hav => hcs _ hc.size (fun b hb2 hx => hc.same b (fun e => hx (by subst e; exact ⟨by omega, by omega⟩)) hb2) C L σ hav⟩
  have d0 := bq g2 0
  have d1 := bq g2 1
  have d2 := bq g2 2
  have d3 := bq g2 3
  have d4 := bq g2 4
  have d5 := bq g2 5
  have d6 := bq g2 6
  have e3 := g3.cell
  have e4 := g4.cell
  simp only [results, show Tryz.f11.results = #[.cell 2 29, .cell 3 3, .cell 4 32] by kernel_rfl]
  simp only [Array.getD_eq_getD_getElem?] at t2 t3 t4
  have i1 : (Tryz.prog.info? 29).map (fun i => i.size) = some 7 := by kernel_rfl
  simp [loadVar, asAddr, go_sem, t2, t3, t4, d0, d1, d2, d3, d4, d5, d6, e3, e4]
end
section
open Go.RowKit Go.Shelf
attribute [local go_sem] Oper.semAt_some
def R13 (w : World) (k : Nat) (W W' : World) : Prop :=
  (W.heap.size ≤ W'.heap.size ∧ W'.os = W.os ∧ W'.tape = W.tape ∧ W'.output = W.output ∧ ∀ b, b < W.heap.size → b ≠ w.heap.size → b ≠ w.heap.size + 1 → b ≠ w.heap.size + 2 → W'.heap[b]? = W.heap[b]?) ∧
  W'.heap[w.heap.size]? = some (.cells zmC 29 (0, 0)) ∧ Boxed W' (w.heap.size + 1) 3 (.int .i64 ((k : Int) + 1)) ∧ Boxed W' (w.heap.size + 2) 32 (.int .i64 12)
theorem sf {w W W3 : World} {k : Nat} (hp : PS w (k : Int) W) (hc : Chg w.heap.size W.drew W3) (hg : W3.heap[w.heap.size]? = some (.cells zmC 29 (0, 0))) (b3 : Boxed W3 (w.heap.size + 1) 3 (.int .i64 0)) (b4 : Boxed W3 (w.heap.size + 2) 32 (.int .i64 0)) :
    R13 w k W ((W3.setCell ⟨w.heap.size + 1, 0, none⟩ (.int .i64 ((k : Int) + 1))).setCell ⟨w.heap.size + 1 + 1, 0, none⟩ (.int .i64 12)) := by
  have hc1 := eL W3 (w.heap.size + 1) (.int .i64 ((k : Int) + 1))
  have hc2 := eL (W3.setCell ⟨w.heap.size + 1, 0, none⟩ (.int .i64 ((k : Int) + 1))) (w.heap.size + 1 + 1) (.int .i64 12)
  have hz : w.heap.size + 8 < W.drew.heap.size := hp.sz
  have s3 := hc.size
  have s4 := hc1.size
  have s5 := hc2.size
  exact ⟨⟨Nat.le_trans s3 (Nat.le_trans s4 s5), hc2.os.trans (hc1.os.trans hc.os), hc2.tape.trans (hc1.tape.trans hc.tape), hc2.output.trans (hc1.output.trans hc.output), fun b q1 q2 q3 q4 => (hc2.same b q4 (Nat.lt_of_lt_of_le (show b < W.drew.heap.size from q1) (Nat.le_trans s3 s4))).trans ((hc1.same b q3 (Nat.lt_of_lt_of_le (show b < W.drew.heap.size from q1) s3)).trans (hc.same b q2 q1))⟩,
    (hc2.same _ (by omega) (by omega)).trans ((hc1.same _ (by omega) (by omega)).trans hg), hc2.boxed (b3.set _) (by omega), Boxed.set (B := w.heap.size + 1 + 1) _ (hc1.boxed b4 (by omega))⟩
theorem xj {w W W3 : World} {last i er : Int} {cs : Array Value} (hp : PS w last W) (h3 : Chg w.heap.size W W3 ∧ W3.heap[w.heap.size]? = some (.cells cs 29 (0, 0)) ∧ Boxed W3 (w.heap.size + 1) 3 (.int .i64 0) ∧ Boxed W3 (w.heap.size + 2) 32 (.int .i64 0)) (hD : W.heap[w.heap.size + 7]? = some (.deferred (some []))) :
    ∃ Wf, ((W3.setCell ⟨w.heap.size + 1, 0, none⟩ (.int .i64 i)).setCell ⟨w.heap.size + 1 + 1, 0, none⟩ (.int .i64 er)) = Wf ∧ Below w.heap.size w Wf ∧ Wf.heap[w.heap.size]? = some (.cells cs 29 (0, 0)) ∧ Boxed Wf (w.heap.size + 1) 3 (.int .i64 i) ∧ Boxed Wf (w.heap.size + 2) 32 (.int .i64 er) ∧
      Wf.heap[w.heap.size + 7]? = some (.deferred (some [])) ∧ W.heap.size ≤ Wf.heap.size ∧ ∀ b, b < W.heap.size → ¬ XP w.heap.size b → Wf.heap[b]? = W.heap[b]? := by
  obtain ⟨hc, hg, b3, b4⟩ := h3
  have hc1 := eL W3 (w.heap.size + 1) (.int .i64 i)
  have hc2 := eL (W3.setCell ⟨w.heap.size + 1, 0, none⟩ (.int .i64 i)) (w.heap.size + 1 + 1) (.int .i64 er)
  have hz := hp.sz
  have s3 := hc.size
  have s4 := hc1.size
  have s5 := hc2.size
  have hall : ∀ b, b < W.heap.size → b ≠ w.heap.size → b ≠ w.heap.size + 1 → b ≠ w.heap.size + 1 + 1 → ((W3.setCell ⟨w.heap.size + 1, 0, none⟩ (.int .i64 i)).setCell ⟨w.heap.size + 1 + 1, 0, none⟩ (.int .i64 er)).heap[b]? = W.heap[b]? :=
    fun b q1 q2 q3 q4 => (hc2.same b q4 (by omega)).trans ((hc1.same b q3 (by omega)).trans (hc.same b q2 q1))
  refine ⟨_, rfl, hc2.below (hc1.below (hc.below hp.bl (Nat.le_refl _) (Nat.le_refl _)) (Nat.le_refl _) (by omega)) (Nat.le_refl _) (by omega), (hc2.same _ (by omega) (by omega)).trans ((hc1.same _ (by omega) (by omega)).trans hg), hc2.boxed (b3.set _) (by omega), Boxed.set (B := w.heap.size + 1 + 1) _ (hc1.boxed b4 (by omega)), (hall _ (by omega) (by omega) (by omega) (by omega)).trans hD, by omega, fun b hb hx => hall b hb ?_ ?_ ?_⟩
  all_goals (intro e; subst e; exact hx ⟨by omega, by omega⟩)
set_option maxHeartbeats 4000000 in
theorem rx (n : Nat) (hn : 6 ≤ n) (s : Bs) (hs : s.length ≤ 900000) (w : World) : CallsIn Fence.wide n Tryz.prog 11 #[.string ⟨s.toArray⟩] w (MpQ s w) := by
  have h1 : 1 ≤ n := by omega
  have w23 : Fence.wide.fn 28 := trivial
  refine callsIn_of_wp_marks Tryz.func11 rfl trivial ?_ rfl
  simp only [Tryz.ntmps11, List.size_toArray, ak, aw, O, aa, Array.replicate_succ, Array.replicate_zero, List.push_toArray, List.append_toArray, ar, am]
  have hbig : ¬ 1048576 < s.length := by omega
  gi_wp2_with (gi_at_call 28; refine (wn (n - 1) _ _).mono ?_; rintro e w' ⟨rfl, rfl⟩)
  obtain ⟨W0, hW0⟩ : ∃ W0, ((ke s w.heap.size).foldl (fun W o => W.alloc o) w) = W0 := ⟨_, rfl⟩
  show Code.wpIn Fence.wide n Tryz.prog _ _ _ ((ke s w.heap.size).foldl (fun W o => W.alloc o) w)
  have hst0 := ru s w
  have hz0 := gE (ke s w.heap.size) w
  rw [hW0] at hst0 hz0 ⊢
  replace hz0 : W0.heap.size = w.heap.size + 7 := hz0
  clear hW0
  refine pf rfl h1 (gf := 45) (lb := #[.pointer (some ⟨w.heap.size + 6, 0, none⟩)]) rfl trivial (enters_of Tryz.func45 (by kernel_rfl) rfl)
    (qT (n - 1) (by omega) s (by omega) (w.heap.size + 6)) (fun _ => rfl) ?hstp (IPs s w) (IYs s w) (fun c k W => c = .ret ∧ IXs s w k W) (fun k W h => h.2.1) (fun k W h => h.2.1) (fun k W h => ta h)
    ?hIp ?hYp ?hXp ?h0 ?a1 ?hassign ?hbody ?hdone ?hstop
  case hassign =>
    intro l k W K hK
    gi_wp2
    exact hK
  case hstp => intro k W b hb; exact Below.heap_setCell W _ _ b (by show b ≠ w.heap.size + 6; omega)
  case hIp => intro k W r h _; rw [hz0]; exact uN h
  case hYp => intro k W r h _; rw [hz0]; exact vD h
  case hXp => rintro c k W r ⟨hc, h⟩ hz; rw [hz0] at hz ⊢; exact ⟨hc, vw h hz⟩
  case h0 => intro r; exact hst0 _ _
  case hbody =>
    intro k W hi hne
    have w24 : Fence.wide.fn 29 := trivial
    have hn2 : 1 ≤ n - 1 - 1 := by omega
    have hcall := CallsIn.inRound (n := n - 1 - 1 - 1) (w.heap.size + 7 + 1) (callsIn_wide.2 (qf hs hi hne))
    have c5 := hi.1.b5.cell
    rw [hz0]
    by_cases he : (bg (bV s k) (cg s k)).2 = 0
    · gi_wp2_with (gi_at_call 29; refine hcall.mono ?_; rintro e W2 ⟨⟨rfl, hp, hbx, hhs⟩, hd, hl⟩; have c6 := hp.b6.cell; have f6 := hp.b6.frozen)
      exact we hp hbx hhs hi.2.2.2 hne he hd hl
    · gi_wp2_with (first | (gi_at_call 29; refine hcall.mono ?_; rintro e W2 ⟨⟨rfl, hp, hbx, hhs⟩, hd, hl⟩) | (refine jd rfl 29 (.tmp 2) (.tmp 25) rfl w.heap.size zmC rfl rfl 29 zmC hp.b2 (by kernel_rfl) rfl zm1 hp.b3 hp.b4 ?_; rintro W3 ⟨hc3, c3, f3, c4, f4⟩))
      obtain ⟨g1, g2⟩ := wa (W := W) hp hi.2.2.2 he hd hl hc3
      exact ⟨g1, rfl, g2⟩
  case hdone =>
    intro k W hf hi hD
    rw [hz0] at hD
    have c5 := hi.1.b5.cell
    have c6 := hi.1.b6.cell
    obtain ⟨v1, v2, v5, v6, v7, hR, ho, hdat⟩ := tB hi.2.2.1
    have d8 : W.cell? ⟨w.heap.size + 3, 8, none⟩ = some (.int .i64 ((bV s k).rd : Int)) := bq hR 8
    have d9 : W.cell? ⟨w.heap.size + 3, 9, none⟩ = some (.int .i64 (bV s k).lf) := bq hR 9
    have d0 : W.cell? ⟨w.heap.size + 3, 0, none⟩ = some (.string ⟨(bV s k).nm.toArray⟩) := bq hR 0
    have d1 : W.cell? ⟨w.heap.size + 3, 1, none⟩ = some v1 := bq hR 1
    have d2 : W.cell? ⟨w.heap.size + 3, 2, none⟩ = some v2 := bq hR 2
    have d3 : W.cell? ⟨w.heap.size + 3, 3, none⟩ = some (.int .i64 (bV s k).inp) := bq hR 3
    have d4 : W.cell? ⟨w.heap.size + 3, 4, none⟩ = some (.int .i64 (bV s k).st) := bq hR 4
    have d5 : W.cell? ⟨w.heap.size + 3, 5, none⟩ = some v5 := bq hR 5
    have d6 : W.cell? ⟨w.heap.size + 3, 6, none⟩ = some v6 := bq hR 6
    rw [hz0]
    have hps := hi.1
    have hend := wj hbig hi.2.2.2 hf
    have b2 := hps.b2
    have h6d : Boxed W.drew (w.heap.size + 5) 3 (.int .i64 (k : Int)) := hps.b6
    have c6d : W.drew.cell? ⟨w.heap.size + 1 + 1 + 1 + 1 + 1, 0, none⟩ = some (.int .i64 (k : Int)) := h6d.cell
    have hkl : k ≤ 1048576 := by have := (mn (by omega : s.length ≤ 1048576) hi.2.2.2).2.2; omega
    by_cases hfin : (bV s k).rd < 5 ∨ ((5 : Int) ≤ ((bV s k).rd : Int) ∧ 0 < (bV s k).lf)
    · rcases hfin with hrd | ⟨hrd, hlf⟩
      all_goals gi_wp2
      all_goals
        (refine wpIn_mono (Q := fun e a' W' => match e with | .normal => (a'.defers = [{ target := .collected (w.heap.size + 7), args := #[] }] ∧ a'.tmps.getD 2 undef = .pointer (some ⟨w.heap.size, 0, none⟩) ∧ a'.tmps.getD 3 undef = .pointer (some ⟨w.heap.size + 1, 0, none⟩) ∧ a'.tmps.getD 4 undef = .pointer (some ⟨w.heap.size + 2, 0, none⟩)) ∧ R13 w k W W' | _ => False) ?_ ?_
         · refine wpIn_region_any (by kernel_rfl) ?_
           refine wpAnyIn_take (i := 0) (v := .agg zmC) rfl rfl (by kernel_rfl) (by kernel_rfl) (by kernel_rfl) (fun _ _ _ h => h) ⟨Or.inl ⟨by rfl, ?_⟩, fun _ => rfl⟩ ?_
           · intro w'; go_simp; rfl
           refine wpAnyIn_ready (rs := [1, 3]) (by kernel_rfl) (by simp) ?_
           refine AllReadyIn.cons rfl (fun K hK => ?_) (AllReadyIn.cons rfl (fun K hK => ?_) AllReadyIn.nil)
           · go_simp
             refine hK _ _ ?_
             refine wpAnyIn_take (i := 2) (v := .int .i64 ((k : Int) + 1)) rfl rfl (by kernel_rfl) (by kernel_rfl) (by kernel_rfl) (fun _ _ _ h => h) ⟨Or.inl ⟨by rfl, ?_⟩, fun _ => rfl⟩ ?_
             · intro w'; go_simp; rw [IntKind.wrap_i64]; omega
             refine wpAnyIn_ready (rs := [3]) (by kernel_rfl) (by simp) ?_
             refine AllReadyIn.cons rfl (fun K hK => ?_) AllReadyIn.nil
             refine lr 29 (.tmp 2) (.tmp 41) rfl w.heap.size zmC rfl rfl 29 zmC (show W.drew.heap[w.heap.size]? = _ from b2) (by kernel_rfl) rfl zm1 ?_
             intro W3 hc3 hg3
             refine hK _ _ ?_
             have m3 := hc3.boxed (show Boxed W.drew (w.heap.size + 1) 3 (.int .i64 0) from hps.b3) (by omega)
             have m4 := hc3.boxed (show Boxed W.drew (w.heap.size + 2) 32 (.int .i64 0) from hps.b4) (by omega)
             have m6 := hc3.boxed h6d (by omega)
             have e3 := m3.cell; have f3 := m3.frozen
             have e4 : W3.cell? ⟨w.heap.size + 1 + 1, 0, none⟩ = some (.int .i64 0) := m4.cell
             have f4 : W3.frozen? ⟨w.heap.size + 1 + 1, 0, none⟩ = false := m4.frozen
             have e6 : W3.cell? ⟨w.heap.size + 1 + 1 + 1 + 1 + 1, 0, none⟩ = some (.int .i64 (k : Int)) := m6.cell
             refine wpAnyIn_ready (rs := [4]) (by kernel_rfl) (by simp) ?_
             refine AllReadyIn.cons rfl (fun K hK => ?_) AllReadyIn.nil
             go_simp
             refine hK _ _ ?_
             refine wpAnyIn_ready (rs := [5]) (by kernel_rfl) (by simp) ?_
             refine AllReadyIn.cons rfl (fun K hK => ?_) AllReadyIn.nil
             go_simp
             refine hK _ _ ?_
             refine wpAnyIn_done (by kernel_rfl) ?_ _
             exact ⟨⟨rfl, rfl, rfl, rfl⟩, sf hps hc3 hg3 m3 m4⟩
           · refine lr 29 (.tmp 2) (.tmp 41) rfl w.heap.size zmC rfl rfl 29 zmC (show W.drew.heap[w.heap.size]? = _ from b2) (by kernel_rfl) rfl zm1 ?_
             intro W3 hc3 hg3
             refine hK _ _ ?_
             have m3 := hc3.boxed (show Boxed W.drew (w.heap.size + 1) 3 (.int .i64 0) from hps.b3) (by omega)
             have m4 := hc3.boxed (show Boxed W.drew (w.heap.size + 2) 32 (.int .i64 0) from hps.b4) (by omega)
             have m6 := hc3.boxed h6d (by omega)
             have e3 := m3.cell; have f3 := m3.frozen
             have e4 : W3.cell? ⟨w.heap.size + 1 + 1, 0, none⟩ = some (.int .i64 0) := m4.cell
             have f4 : W3.frozen? ⟨w.heap.size + 1 + 1, 0, none⟩ = false := m4.frozen
             have e6 : W3.cell? ⟨w.heap.size + 1 + 1 + 1 + 1 + 1, 0, none⟩ = some (.int .i64 (k : Int)) := m6.cell
             refine wpAnyIn_ready (rs := [1]) (by kernel_rfl) (by simp) ?_
             refine AllReadyIn.cons rfl (fun K hK => ?_) AllReadyIn.nil
             go_simp
             refine hK _ _ ?_
             refine wpAnyIn_take (i := 2) (v := .int .i64 ((k : Int) + 1)) rfl rfl (by kernel_rfl) (by kernel_rfl) (by kernel_rfl) (fun _ _ _ h => h) ⟨Or.inl ⟨by rfl, ?_⟩, fun _ => rfl⟩ ?_
             · intro w'; go_simp; rw [IntKind.wrap_i64]; omega
             refine wpAnyIn_ready (rs := [4]) (by kernel_rfl) (by simp) ?_
             refine AllReadyIn.cons rfl (fun K hK => ?_) AllReadyIn.nil
             go_simp
             refine hK _ _ ?_
             refine wpAnyIn_ready (rs := [5]) (by kernel_rfl) (by simp) ?_
             refine AllReadyIn.cons rfl (fun K hK => ?_) AllReadyIn.nil
             go_simp
             refine hK _ _ ?_
             refine wpAnyIn_done (by kernel_rfl) ?_ _
             exact ⟨⟨rfl, rfl, rfl, rfl⟩, sf hps hc3 hg3 m3 m4⟩
         · intro e a' W' h
           cases e with
           | normal =>
             obtain ⟨⟨hdf, t2, t3, t4⟩, ⟨z1, z2, z3, z4, z5⟩, g2, g3, g4⟩ := h
             obtain ⟨tm, df⟩ := a'
             simp only at hdf
             subst hdf
             have hsz := hps.sz
             have hpm : PM s = (gU, (k : Int) + 1, 12) := by rw [hend]; unfold iy; rw [if_pos (by first | exact .inl hrd | exact .inr hlf)]
             have hbl : Below w.heap.size w W' := ⟨z2.trans hps.bl.os, z3.trans hps.bl.tape, z4.trans hps.bl.output, Nat.le_trans hps.bl.size z1, fun b hb => (z5 b (by omega) (by omega) (by omega) (by omega)).trans (hps.bl.block b hb)⟩
             have hD2 : W'.heap[w.heap.size + 7]? = some (.deferred (some [])) := (z5 _ (by omega) (by omega) (by omega) (by omega)).trans hD
             clear hend c6 c6d d0 d1 d2 d3 d4 d5 d6 d8 d9 hR b2
             gi_wp2
             refine nY t2 t3 t4 hbl g2 g3 g4 hD2 (by rw [hpm]) ?_
             rw [hpm]
             exact fun W' _ _ C L σ _ => ⟨⟨rfl, rfl⟩, ⟨rfl, bT _⟩, ⟨rfl, bT _⟩, ⟨rfl, rfl⟩, ⟨rfl, rfl⟩, ⟨rfl, bT _⟩, ⟨rfl, bT _⟩, trivial⟩
           | ret => exact h.elim
           | exit id => exact h.elim
           | goto t => exact h.elim
           | panic c => exact h.elim
           | outgrown => exact h.elim)
    · have hrd : (5 : Int) ≤ ((bV s k).rd : Int) := by omega
      have hlf : (bV s k).lf ≤ 0 := by omega
      have hri := mn (by omega : s.length ≤ 1048576) hi.2.2.2
      have htb := (hri.1.t4 (by omega)).1
      obtain ⟨a1, a2, a5, a6⟩ := hdat htb
      have hpm : PM s = (sG (bV s k), 0, 0) := by rw [hend]; unfold iy; rw [if_neg (by omega)]
      clear hend
      gi_wp2_with (refine jd rfl 29 (.tmp 2) (.tmp 47) rfl w.heap.size #[.string ⟨(bV s k).nm.toArray⟩, v1, v2, .int .i64 (bV s k).inp, .int .i64 (bV s k).st, v5, v6] rfl rfl 29 zmC b2 (by kernel_rfl) rfl (by simpa [Value.oneCell'] using ho) hps.b3 hps.b4 ?_; rintro W3 ⟨hc3, c3, f3, c4, f4⟩)
      obtain ⟨Wf, hWf, z1, z2, z3, z4, z5, z6, z7⟩ := xj (i := 0) (er := 0) hps hc3 hD
      rw [hWf]
      refine nY rfl rfl rfl z1 z2 z3 z4 z5 (by rw [hpm]) ?_
      rw [hpm]
      intro W' y1 y2 C L σ hav
      have hk : ∀ {t : Ty} {d : t.den} {cs : List Value}, Dat (XP w.heap.size) W t d cs → Dat (avd C L σ) W' t d cs := fun h => h.keep (Nat.le_trans z6 y1) (fun b hb hx => (y2 b (Nat.lt_of_lt_of_le hb z6) hx).trans (z7 b hb hx)) fun b _ hb => ⟨by have := hav b hb; omega, by have := hav b hb; omega⟩
      exact ⟨⟨rfl, rfl⟩, ⟨ho.1, hk a1⟩, ⟨ho.2.1, hk a2⟩, ⟨rfl, rfl⟩, ⟨rfl, rfl⟩, ⟨ho.2.2.1, hk a5⟩, ⟨ho.2.2.2, hk a6⟩, trivial⟩
  case hstop =>
    rintro c k W hf ⟨rfl, hx⟩ hD
    rw [hz0] at hD ⊢
    gi_wp2
    have hpm := vT hbig hx.ok hf hx.e0
    refine nY rfl rfl rfl hx.bl hx.b2 hx.b3 hx.b4 hD (by rw [hpm]) ?_
    rw [hpm]
    exact fun W' _ _ C L σ _ => ⟨⟨rfl, rfl⟩, ⟨rfl, bT _⟩, ⟨rfl, bT _⟩, ⟨rfl, rfl⟩, ⟨rfl, rfl⟩, ⟨rfl, bT _⟩, ⟨rfl, bT _⟩, trivial⟩
theorem f9 (s : Bs) (hs : s.length ≤ 900000) : bH Tryz.prog 11 [.one (.str s)] (.tup [(PM s).1.av, .one (.int .i64 (PM s).2.1), .one (.int .i64 (PM s).2.2)]) := by
  refine ⟨⟨Tryz.f11, Tryz.func11, by kernel_rfl, by kernel_rfl⟩, fun C L σ w vs hP hI ha => ?_⟩
  match vs, ha with
  | [v], ⟨h1, _⟩ =>
  obtain rfl : v = .string ⟨s.toArray⟩ := h1.2
  refine (callsIn_wide.1 (rx 6 (Nat.le_refl _) s hs w)).mono ?_
  rintro e w' ⟨us, h2, h3, h4⟩
  have hx : ∀ b, avd C L σ b → b < w.heap.size := by
    rintro b (hx | ⟨o, ho⟩)
    · exact Nat.lt_of_lt_of_le (hI.xlt b hx) hI.size
    · exact fz hI ho
  exact ⟨_, h2, ⟨h3.size, h3.os, h3.tape, h3.output, h3.block⟩, _, rfl, ⟨us, rfl, h4 C L σ hx⟩, ⟨rfl, rfl⟩, ⟨rfl, rfl⟩, trivial⟩
end
open Go.Shelf in
def Tryz.lays171_ren : Go.Shelf.Ren := ⟨fun | 171 => 36 | 243 => 55 | 246 => 67 | 283 => 87 | 284 => 88 | 285 => 89 | 286 => 90 | 129 => 80 | 317 => 102 | 318 => 103 | 319 => 104 | 320 => 105 | 337 => 112 | 338 => 113 | n => n, fun | 3 => 3 | 9 => 9 | 2 => 2 | 4 => 4 | 171 => 127 | 0 => 0 | 53 => 122 | 37 => 75 | 5 => 5 | 173 => 129 | 212 => 144 | 51 => 120 | 20 => 20 | 213 => 145 | 46 => 103 | 232 => 160 | 233 => 161 | n => n, fun | 17 => 1 | 18 => 4 | 19 => 5 | n => n⟩
theorem Tryz.lays171 : Go.Proofs.Lays.n171 Tryz.prog Tryz.lays171_ren := {
  mixed := by kernel_rfl,
  f129 := Tryz.func80.trans (congrArg some (by kernel_rfl)),
  f171 := Tryz.func36.trans (congrArg some (by kernel_rfl)),
  f243 := Tryz.func55.trans (congrArg some (by kernel_rfl)),
  f246 := Tryz.func67.trans (congrArg some (by kernel_rfl)),
  f283 := Tryz.func87.trans (congrArg some (by kernel_rfl)),
  f284 := Tryz.func88.trans (congrArg some (by kernel_rfl)),
  f285 := Tryz.func89.trans (congrArg some (by kernel_rfl)),
  f286 := Tryz.func90.trans (congrArg some (by kernel_rfl)),
  f317 := Tryz.func102.trans (congrArg some (by kernel_rfl)),
  f318 := Tryz.func103.trans (congrArg some (by kernel_rfl)),
  f319 := Tryz.func104.trans (congrArg some (by kernel_rfl)),
  f320 := Tryz.func105.trans (congrArg some (by kernel_rfl)),
  f337 := Tryz.func112.trans (congrArg some (by kernel_rfl)),
  f338 := Tryz.func113.trans (congrArg some (by kernel_rfl)),
  t0 := Tryz.underlying0,
  a0 := Tryz.isAgg0,
  z0 := Tryz.sizeOf0,
  v0 := Tryz.zeroValue0,
  t2 := Tryz.underlying2,
  a2 := Tryz.isAgg2,
  z2 := Tryz.sizeOf2,
  v2 := Tryz.zeroValue2,
  t3 := Tryz.underlying3,
  a3 := Tryz.isAgg3,
  z3 := Tryz.sizeOf3,
  v3 := Tryz.zeroValue3,
  t4 := Tryz.underlying4,
  a4 := Tryz.isAgg4,
  z4 := Tryz.sizeOf4,
  v4 := Tryz.zeroValue4,
  t5 := Tryz.underlying5,
  a5 := Tryz.isAgg5,
  z5 := Tryz.sizeOf5,
  v5 := Tryz.zeroValue5,
  t9 := Tryz.underlying9,
  a9 := Tryz.isAgg9,
  z9 := Tryz.sizeOf9,
  v9 := Tryz.zeroValue9,
  t20 := Tryz.underlying20,
  a20 := Tryz.isAgg20,
  z20 := Tryz.sizeOf20,
  v20 := Tryz.zeroValue20,
  t37 := Tryz.underlying75,
  a37 := Tryz.isAgg75,
  z37 := Tryz.sizeOf75,
  v37 := Tryz.zeroValue75,
  t46 := Tryz.underlying103,
  a46 := Tryz.isAgg103,
  z46 := Tryz.sizeOf103,
  v46 := Tryz.zeroValue103,
  t51 := Tryz.underlying120,
  a51 := Tryz.isAgg120,
  z51 := Tryz.sizeOf120,
  v51 := Tryz.zeroValue120,
  t53 := Tryz.underlying122,
  a53 := Tryz.isAgg122,
  z53 := Tryz.sizeOf122,
  v53 := Tryz.zeroValue122,
  t171 := Tryz.underlying127,
  a171 := Tryz.isAgg127,
  z171 := Tryz.sizeOf127,
  v171 := Tryz.zeroValue127,
  t173 := Tryz.underlying129,
  a173 := Tryz.isAgg129,
  z173 := Tryz.sizeOf129,
  v173 := Tryz.zeroValue129,
  t212 := Tryz.underlying144,
  a212 := Tryz.isAgg144,
  z212 := Tryz.sizeOf144,
  v212 := Tryz.zeroValue144,
  t213 := Tryz.underlying145,
  a213 := Tryz.isAgg145,
  z213 := Tryz.sizeOf145,
  t232 := Tryz.underlying160,
  a232 := Tryz.isAgg160,
  z232 := Tryz.sizeOf160,
  v232 := Tryz.zeroValue160,
  t233 := Tryz.underlying161,
  a233 := Tryz.isAgg161,
  z233 := Tryz.sizeOf161,
  v233 := Tryz.zeroValue161,
  g17 := by kernel_rfl,
  g18 := by kernel_rfl,
  g19 := by kernel_rfl }
theorem wm (n : Int) (h0 : 0 ≤ n) (h1 : n < 100) : bH Tryz.prog 36 [.one (.int .i64 n)] (.one (.str (Lib.decDigits n.toNat))) := by
  refine ⟨⟨Tryz.f36, Tryz.func36, by kernel_rfl, by kernel_rfl⟩, fun C L σ w vs hP hi ha => ?_⟩
  cases vs with
  | nil => exact ha.elim
  | cons v vs =>
  cases vs with
  | cons _ _ => exact ha.2.elim
  | nil =>
  have e1 : v = .int .i64 n := ha.1.2
  subst e1
  have h := Any.strconv_Itoa_small Tryz.lays171 n.toNat (by omega) w
  have e : ((n.toNat : Nat) : Int) = n := Int.toNat_of_nonneg h0
  rw [e] at h
  refine Calls.mono h fun e w' hh => ?_
  obtain ⟨e1, e2⟩ := hh
  subst e2
  exact ⟨_, e1, MORE.refl _, rfl, rfl⟩
theorem nT (n : Int) (h0 : 0 ≤ n) (h1 : n < 100) : bH Tryz.prog 16 [.one (.int .i64 n)] (.one (.str (qn n.toNat))) := by
 have hl := qS n.toNat (by omega)
 refine aR Tryz.func16 rfl (by kernel_rfl) (Nat.le_of_ble_eq_true rfl) rfl fun C hP hN hB => ?_
 replace hN : C.N = 6 := hN
 simp only [aX, O]
 refine af fun _ k1 => ?_
 refine ah hP hN rfl ?_
 (refine ae rfl fun _ k0 => ?_; simp only [zO, zT, acs, reduceCtorEq, V, O, Z, ad, ab, aa]; (repeat refine an ?_); (try refine .inl ?_); apply k0; clear k0; simp only [zP, O])
 refine ag ?_
 apply k1; clear k1; refine kp [0, 2] ?_
 refine af fun _ k2 => ?_
 refine ah hP hN rfl ?_
 (refine ae rfl fun _ k0 => ?_; simp only [zO, zT, acs, reduceCtorEq, V, O, Z, ad, ab, aa, ak, aw]; (repeat refine an ?_); (try refine .inl ?_); apply k0; clear k0; simp only [zP, O])
 refine ae rfl fun _ k0 => ?_
 refine aC (h := au (wm n h0 h1)) rfl rfl (by first | exact rfl | (simp only [ev, zP, V, O]; exact rfl)) (by simp only [zV, acs, reduceCtorEq, V, O, Z, ad, ab, aa, ak, aw]) ?_
 apply k0; clear k0; simp only [zP, O]
 iterate 2 (refine ae rfl fun _ k0 => ?_; simp only [zO, zT, acs, reduceCtorEq, V, O, Z, ad, ab, aa, ak, aw]; (repeat refine an ?_); (try refine .inl ?_); apply k0; clear k0; simp only [zP, O])
 refine ag ?_
 apply k2; clear k2; refine kp [0, 2] ?_
 refine ax ?_
 refine ⟨nr, _, rfl, ?_⟩; simp only [zF, zP, V, O]
 refine VLE.of_eq ?_
 rfl
theorem wc (xs : List Int) (h0 : 0 < xs.length) : bH Tryz.prog 24 [.one (.list (.int .i64) xs)] (.one (.int .i64 (mxL xs))) := by
 refine aR Tryz.func24 rfl (by kernel_rfl) (Nat.le_of_ble_eq_true rfl) rfl fun C hP hN hB => ?_
 replace hN : C.N = 25 := hN
 simp only [aX, O]
 refine gx 0 rfl fun hf0 => ?_; simp only [lkp, if_true, if_false, reduceCtorEq, V, eq_self, Nat.one_ne_zero, Nat.zero_ne_one, lz, kw, kg, Fit, and_true, implies_true, true_and] at hf0
 refine af fun _ k1 => ?_
 refine ah hP hN rfl ?_
 (refine ae rfl fun _ k0 => ?_; simp only [zO, zT, acs, reduceCtorEq, V, O, Z, ad, ab, aa]; (repeat refine an ?_); (try refine .inl ?_); apply k0; clear k0; simp only [zP, O])
 refine ag ?_
 apply k1; clear k1; refine kp [0, 2] ?_
 refine af fun _ k2 => ?_
 refine af fun _ k3 => ?_
 refine ah hP hN rfl ?_
 iterate 3 (refine ae rfl fun _ k0 => ?_; simp only [zO, zT, acs, reduceCtorEq, V, O, Z, ad, ab, aa]; (repeat refine an ?_); (try refine .inl ?_); apply k0; clear k0; simp only [zP, O])
 refine ag ?_
 apply k3; clear k3; refine kp [0, 2, 7] ?_
 refine cd (fun hc4 => ?_) (fun hc4 => ?_)
 · exfalso; (try simp only [zB, reduceCtorEq] at hc4); all_goals (first | (cases hc4; done) | omega | (simp at hc4; done) | (simp_all; done))
 (try simp only [zB, reduceCtorEq] at hc4)
 refine ay ?_
 apply k2; clear k2; refine kp [0, 2, 7] ?_
 refine af fun _ k5 => ?_
 refine ah hP hN rfl ?_
 iterate 4 (refine ae rfl fun _ k0 => ?_; simp only [zO, zT, acs, reduceCtorEq, V, O, Z, ad, ab, aa]; (repeat refine an ?_); (try refine .inl ?_); apply k0; clear k0; simp only [zP, O])
 refine ag ?_
 apply k5; clear k5; refine kp [0, 2, 3, 7] ?_
 refine af fun _ k6 => ?_
 refine af fun _ k7 => ?_
 refine ah hP hN rfl ?_
 (refine ae rfl fun _ k0 => ?_; simp only [zO, zT, acs, reduceCtorEq, V, O, Z, ad, ab, aa]; (repeat refine an ?_); (try refine .inl ?_); apply k0; clear k0; simp only [zP, O])
 refine ag ?_
 apply k7; clear k7; refine kp [0, 2, 3, 4, 7] ?_
 refine aE ?_
 refine bn (fun n8 s8 => ∃ (k : Nat), (1 ≤ k) ∧ (k ≤ xs.length) ∧ n8 = xs.length - k ∧ s8 = { env := [(0, .one (.list (.int .i64) xs)), (3, .one (.int .i64 ((xs.take k).foldl max (xs.getD 0 0)))), (4, .one (.int .i64 (k : Int)))], L := [] }) ?_ ?_
 ·refine ⟨_, _, aB [0, 3, 4], 1, Nat.le_refl _, h0, rfl, ?_⟩
  rw [wA h0]; rfl
 rintro n8 s8 ⟨k, hk1, hk, rfl, rfl⟩
 refine af fun _ k9 => ?_
 refine af fun _ k10 => ?_
 refine ah hP hN rfl ?_
 iterate 4 (refine ae rfl fun _ k0 => ?_; simp only [zO, zT, acs, reduceCtorEq, V, O, Z, ad, ab, aa]; (repeat refine an ?_); (try refine .inl ?_); apply k0; clear k0; simp only [zP, O])
 refine ag ?_
 apply k10; clear k10; refine kp [0, 3, 4, 15] ?_
 refine cd (fun hc11 => ?_) (fun hc11 => ?_)
 ·(try simp only [zB, reduceCtorEq] at hc11)
  refine ay ?_
  apply k9; clear k9; refine kp [0, 3, 4, 15] ?_
  refine af fun _ k12 => ?_
  refine aE ?_
  refine ah hP hN rfl ?_
  iterate 7 (refine ae rfl fun _ k0 => ?_; simp only [zO, zT, acs, reduceCtorEq, V, O, Z, ad, ab, aa]; (repeat refine an ?_); (try refine .inl ?_); apply k0; clear k0; simp only [zP, O])
  refine ag ?_
  apply k12; clear k12; refine kp [0, 3, 4, 15] ?_
  refine ah hP hN rfl ?_
  iterate 3 (refine ae rfl fun _ k0 => ?_; simp only [zO, zT, acs, reduceCtorEq, V, O, Z, ad, ab, aa]; (repeat refine an ?_); (try refine .inl ?_); apply k0; clear k0; simp only [zP, O])
  refine ag ?_
  refine ⟨_, _, ?_, aB [0, 3, 4], k + 1, by omega, by omega, rfl, ?_⟩
  · omega
  · rw [pv (by omega), List.foldl_append]; rfl
 (try simp only [zB, reduceCtorEq] at hc11)
 refine bh ?_
 apply k6; clear k6; refine kp [0, 3, 4, 15] ?_
 refine af fun _ k13 => ?_
 refine ah hP hN rfl ?_
 iterate 2 (refine ae rfl fun _ k0 => ?_; simp only [zO, zT, acs, reduceCtorEq, V, O, Z, ad, ab, aa]; (repeat refine an ?_); (try refine .inl ?_); apply k0; clear k0; simp only [zP, O])
 refine ag ?_
 apply k13; clear k13; refine kp [0, 2, 3, 4, 15] ?_
 refine ax ?_
 refine ⟨nr, _, rfl, ?_⟩; simp only [zF, zP, V, O]
 refine VLE.of_eq ?_
 refine congrArg (fun n => AV.one (AC.int IntKind.i64 n)) ?_
 rw [show k = xs.length by omega, aD]; rfl
open Go.Shelf in
def Tryz.laysNm220_ren : Go.Shelf.Ren := ⟨fun | 20 => 42 | n => n, fun | 22 => 45 | 3 => 3 | 4 => 4 | 0 => 0 | n => n, fun | n => n⟩
theorem Tryz.laysNm220 : Go.Proofs.Lays2.n20 Tryz.prog Tryz.laysNm220_ren := {
  mixed := by kernel_rfl,
  f20 := Tryz.func42.trans (congrArg some (by kernel_rfl)),
  t0 := Tryz.underlying0,
  a0 := Tryz.isAgg0,
  z0 := Tryz.sizeOf0,
  v0 := Tryz.zeroValue0,
  t3 := Tryz.underlying3,
  a3 := Tryz.isAgg3,
  z3 := Tryz.sizeOf3,
  v3 := Tryz.zeroValue3,
  t4 := Tryz.underlying4,
  a4 := Tryz.isAgg4,
  z4 := Tryz.sizeOf4,
  v4 := Tryz.zeroValue4,
  t22 := Tryz.underlying45,
  a22 := Tryz.isAgg45,
  z22 := Tryz.sizeOf45,
  v22 := Tryz.zeroValue45,
  i3 := by kernel_rfl }
theorem r7 : oK Tryz.prog 42 := ⟨⟨Tryz.f42, Tryz.func42, by kernel_rfl, by kernel_rfl⟩, fun blk off cap zs w hH hb hz => Any.slices_Compact_int Tryz.laysNm220 blk off cap zs w hH hb hz⟩
open Go.Shelf in
def Tryz.lays189_ren : Go.Shelf.Ren := ⟨fun | 189 => 41 | 125 => 60 | 257 => 59 | 128 => 79 | 129 => 80 | 294 => 70 | 295 => 71 | 296 => 72 | 297 => 73 | 298 => 74 | 299 => 75 | 216 => 76 | 300 => 77 | 301 => 78 | 328 => 91 | 329 => 92 | 330 => 93 | 331 => 94 | 332 => 95 | 215 => 96 | 343 => 106 | n => n, fun | 28 => 45 | 3 => 3 | 46 => 103 | 0 => 0 | 51 => 120 | 53 => 122 | 4 => 4 | 183 => 113 | 182 => 112 | 131 => 87 | 5 => 5 | 9 => 9 | 218 => 131 | 222 => 135 | 228 => 146 | 229 => 147 | n => n, fun | n => n⟩
theorem Tryz.lays189 : Go.Proofs.Lays.n189 Tryz.prog Tryz.lays189_ren := {
  mixed := by kernel_rfl,
  f125 := Tryz.func60.trans (congrArg some (by kernel_rfl)),
  f128 := Tryz.func79.trans (congrArg some (by kernel_rfl)),
  f129 := Tryz.func80.trans (congrArg some (by kernel_rfl)),
  f189 := Tryz.func41.trans (congrArg some (by kernel_rfl)),
  f215 := Tryz.func96.trans (congrArg some (by kernel_rfl)),
  f216 := Tryz.func76.trans (congrArg some (by kernel_rfl)),
  f257 := Tryz.func59.trans (congrArg some (by kernel_rfl)),
  f294 := Tryz.func70.trans (congrArg some (by kernel_rfl)),
  f295 := Tryz.func71.trans (congrArg some (by kernel_rfl)),
  f296 := Tryz.func72.trans (congrArg some (by kernel_rfl)),
  f297 := Tryz.func73.trans (congrArg some (by kernel_rfl)),
  f298 := Tryz.func74.trans (congrArg some (by kernel_rfl)),
  f299 := Tryz.func75.trans (congrArg some (by kernel_rfl)),
  f300 := Tryz.func77.trans (congrArg some (by kernel_rfl)),
  f301 := Tryz.func78.trans (congrArg some (by kernel_rfl)),
  f328 := Tryz.func91.trans (congrArg some (by kernel_rfl)),
  f329 := Tryz.func92.trans (congrArg some (by kernel_rfl)),
  f330 := Tryz.func93.trans (congrArg some (by kernel_rfl)),
  f331 := Tryz.func94.trans (congrArg some (by kernel_rfl)),
  f332 := Tryz.func95.trans (congrArg some (by kernel_rfl)),
  f343 := Tryz.func106.trans (congrArg some (by kernel_rfl)),
  t0 := Tryz.underlying0,
  a0 := Tryz.isAgg0,
  z0 := Tryz.sizeOf0,
  v0 := Tryz.zeroValue0,
  t3 := Tryz.underlying3,
  a3 := Tryz.isAgg3,
  z3 := Tryz.sizeOf3,
  v3 := Tryz.zeroValue3,
  t4 := Tryz.underlying4,
  a4 := Tryz.isAgg4,
  z4 := Tryz.sizeOf4,
  v4 := Tryz.zeroValue4,
  t5 := Tryz.underlying5,
  a5 := Tryz.isAgg5,
  z5 := Tryz.sizeOf5,
  v5 := Tryz.zeroValue5,
  t9 := Tryz.underlying9,
  a9 := Tryz.isAgg9,
  z9 := Tryz.sizeOf9,
  v9 := Tryz.zeroValue9,
  t28 := Tryz.underlying45,
  a28 := Tryz.isAgg45,
  z28 := Tryz.sizeOf45,
  v28 := Tryz.zeroValue45,
  t46 := Tryz.underlying103,
  a46 := Tryz.isAgg103,
  z46 := Tryz.sizeOf103,
  v46 := Tryz.zeroValue103,
  t51 := Tryz.underlying120,
  a51 := Tryz.isAgg120,
  z51 := Tryz.sizeOf120,
  v51 := Tryz.zeroValue120,
  t53 := Tryz.underlying122,
  a53 := Tryz.isAgg122,
  z53 := Tryz.sizeOf122,
  v53 := Tryz.zeroValue122,
  t131 := Tryz.underlying87,
  a131 := Tryz.isAgg87,
  z131 := Tryz.sizeOf87,
  v131 := Tryz.zeroValue87,
  t182 := Tryz.underlying112,
  a182 := Tryz.isAgg112,
  z182 := Tryz.sizeOf112,
  v182 := Tryz.zeroValue112,
  t183 := Tryz.underlying113,
  a183 := Tryz.isAgg113,
  z183 := Tryz.sizeOf113,
  v183 := Tryz.zeroValue113,
  t218 := Tryz.underlying131,
  a218 := Tryz.isAgg131,
  z218 := Tryz.sizeOf131,
  v218 := Tryz.zeroValue131,
  t222 := Tryz.underlying135,
  a222 := Tryz.isAgg135,
  z222 := Tryz.sizeOf135,
  v222 := Tryz.zeroValue135,
  t228 := Tryz.underlying146,
  a228 := Tryz.isAgg146,
  z228 := Tryz.sizeOf146,
  v228 := Tryz.zeroValue146,
  t229 := Tryz.underlying147,
  a229 := Tryz.isAgg147,
  z229 := Tryz.sizeOf147,
  v229 := Tryz.zeroValue147 }
theorem uY : vf Tryz.prog 41 := ⟨⟨Tryz.f41, Tryz.func41, by kernel_rfl, by kernel_rfl⟩, fun blk off cap zs w hH hb hz => Any.slices_Sort_int Tryz.lays189 blk off cap zs w hH hb hz⟩
theorem r9 (m : Mly) : bH Tryz.prog 22 [m.av] (.one (.int .i64 (bJ m))) := by
 refine aR Tryz.func22 rfl (by kernel_rfl) (Nat.le_of_ble_eq_true rfl) rfl fun C hP hN hB => ?_
 replace hN : C.N = 104 := hN
 simp only [aX, O]
 refine af fun _ k1 => ?_
 refine ah hP hN rfl ?_
 iterate 2 (refine ae rfl fun _ k0 => ?_; simp only [zO, zT, acs, reduceCtorEq, V, O, Z, ad, ab, aa, Mly.av]; (repeat refine an ?_); (try refine .inl ?_); apply k0; clear k0; simp only [zP, O])
 refine ag ?_
 apply k1; clear k1; refine kp [0, 1, 2] ?_
 refine af fun _ k2 => ?_
 refine ah hP hN rfl ?_
 iterate 4 (refine ae rfl fun _ k0 => ?_; simp only [zO, zT, acs, reduceCtorEq, V, O, Z, ad, ab, aa, Mly.av]; (repeat refine an ?_); (try refine .inl ?_); apply k0; clear k0; simp only [zP, O])
 refine ag ?_
 apply k2; clear k2; refine kp [0, 1, 2, 3] ?_
 refine af fun _ k3 => ?_
 refine aE ?_
 refine af fun _ k4 => ?_
 refine ah hP hN rfl ?_
 iterate 4 (refine ae rfl fun _ k0 => ?_; simp only [zO, zT, acs, reduceCtorEq, V, O, Z, ad, ab, aa, Mly.av]; (repeat refine an ?_); (try refine .inl ?_); apply k0; clear k0; simp only [zP, O])
 refine' aA (want := false) 3 rfl (m := 15) (by simp only [zP, V, O]; exact rfl) (by kernel_rfl) rfl rfl rfl rfl rfl (fun hg5 => ?a5) ?b5 ?c5
 case a5 =>
  have hq5 := hg5; (try simp only [zB, reduceCtorEq] at hg5); simp only [zE]
  iterate 3 (refine aQ rfl fun _ k0 => ?_; simp only [zO, zT, acs, reduceCtorEq, V, O, Z, ad, ab, aa, Mly.av]; (repeat refine an ?_); (try refine .inl ?_); apply k0; clear k0; simp only [zP, O])
  (refine ae rfl fun _ k0 => ?_; simp only [zO, zT, acs, reduceCtorEq, V, O, Z, ad, ab, aa, Mly.av]; (repeat refine an ?_); (try refine .inl ?_); apply k0; clear k0; simp only [zP, O])
  refine ag ?_
  refine ⟨by simp only [zP, V, O]; exact rfl, rfl, ?_, rfl⟩; (repeat refine az rfl ?_); exact aP (by exact rfl) hq5
 case b5 => exact bf
 simp only [aK, aF]
 (refine ae rfl fun _ k0 => ?_; simp only [zO, zT, acs, reduceCtorEq, V, O, Z, ad, ab, aa, Mly.av]; (repeat refine an ?_); (try refine .inl ?_); apply k0; clear k0; simp only [zP, O])
 refine ag ?_
 apply k4; clear k4; refine kp [0, 1, 2, 3, 11] ?_
 refine cd (fun hc6 => ?_) (fun hc6 => ?_)
 ·(try simp only [zB, reduceCtorEq] at hc6)
  refine af fun _ k7 => ?_
  refine ah hP hN rfl ?_
  (refine ae rfl fun _ k0 => ?_; simp only [zO, zT, acs, reduceCtorEq, V, O, Z, ad, ab, aa, Mly.av]; (repeat refine an ?_); (try refine .inl ?_); apply k0; clear k0; simp only [zP, O])
  refine ag ?_
  apply k7; clear k7; refine kp [0, 1, 2, 3, 11] ?_
  refine ax ?_
  refine ⟨nr, _, rfl, ?_⟩; simp only [zF, zP, V, O, Mly.av]
  refine VLE.of_eq ?_
  refine congrArg (fun n => AV.one (AC.int IntKind.i64 n)) ?_
  symm
  unfold bJ
  first
  | (rw [if_pos (by omega)]; done)
  | (rw [if_neg (by omega), if_pos (by omega)]; done)
  | (rw [if_neg (by omega), if_neg (by omega), if_pos (by omega)]; done)
  | (rw [if_neg (by omega), if_neg (by omega), if_neg (by omega), if_pos (by omega)]; done)
  | (rw [if_neg (by omega), if_neg (by omega), if_neg (by omega), if_neg (by omega), if_pos (by omega)]; done)
  | (rw [if_neg (by omega), if_neg (by omega), if_neg (by omega), if_neg (by omega), if_neg (by omega)]
     first
     | exact (bC hrows (by omega) (by rw [bS hc32.1 hc32.2 (j := j) (by omega) (by unfold bu; omega)]; decide)).trans (bS hc32.1 hc32.2 (by omega) (by unfold bu; omega))
     | exact (bC hrows (by omega) (by rw [bQ hc32]; decide)).trans (bQ hc32)
     | exact bW fun i hi => hrows i (by omega))
 (try simp only [zB, reduceCtorEq] at hc6)
 refine af fun _ k8 => ?_
 refine ah hP hN rfl ?_
 iterate 3 (refine ae rfl fun _ k0 => ?_; simp only [zO, zT, acs, reduceCtorEq, V, O, Z, ad, ab, aa, Mly.av]; (repeat refine an ?_); (try refine .inl ?_); apply k0; clear k0; simp only [zP, O])
 refine ag ?_
 apply k8; clear k8; refine kp [0, 1, 2, 3, 11, 20] ?_
 refine cd (fun hc9 => ?_) (fun hc9 => ?_)
 ·(try simp only [zB, reduceCtorEq] at hc9)
  refine af fun _ k10 => ?_
  refine ah hP hN rfl ?_
  (refine ae rfl fun _ k0 => ?_; simp only [zO, zT, acs, reduceCtorEq, V, O, Z, ad, ab, aa, Mly.av]; (repeat refine an ?_); (try refine .inl ?_); apply k0; clear k0; simp only [zP, O])
  refine ag ?_
  apply k10; clear k10; refine kp [0, 1, 2, 3, 11, 20] ?_
  refine ax ?_
  refine ⟨nr, _, rfl, ?_⟩; simp only [zF, zP, V, O, Mly.av]
  refine VLE.of_eq ?_
  refine congrArg (fun n => AV.one (AC.int IntKind.i64 n)) ?_
  symm
  unfold bJ
  first
  | (rw [if_pos (by omega)]; done)
  | (rw [if_neg (by omega), if_pos (by omega)]; done)
  | (rw [if_neg (by omega), if_neg (by omega), if_pos (by omega)]; done)
  | (rw [if_neg (by omega), if_neg (by omega), if_neg (by omega), if_pos (by omega)]; done)
  | (rw [if_neg (by omega), if_neg (by omega), if_neg (by omega), if_neg (by omega), if_pos (by omega)]; done)
  | (rw [if_neg (by omega), if_neg (by omega), if_neg (by omega), if_neg (by omega), if_neg (by omega)]
     first
     | exact (bC hrows (by omega) (by rw [bS hc32.1 hc32.2 (j := j) (by omega) (by unfold bu; omega)]; decide)).trans (bS hc32.1 hc32.2 (by omega) (by unfold bu; omega))
     | exact (bC hrows (by omega) (by rw [bQ hc32]; decide)).trans (bQ hc32)
     | exact bW fun i hi => hrows i (by omega))
 (try simp only [zB, reduceCtorEq] at hc9)
 refine af fun _ k11 => ?_
 refine ah hP hN rfl ?_
 iterate 3 (refine ae rfl fun _ k0 => ?_; simp only [zO, zT, acs, reduceCtorEq, V, O, Z, ad, ab, aa, Mly.av]; (repeat refine an ?_); (try refine .inl ?_); apply k0; clear k0; simp only [zP, O])
 refine ag ?_
 apply k11; clear k11; refine kp [0, 1, 2, 3, 11, 20, 23] ?_
 refine cd (fun hc12 => ?_) (fun hc12 => ?_)
 ·(try simp only [zB, reduceCtorEq] at hc12)
  refine af fun _ k13 => ?_
  refine ah hP hN rfl ?_
  (refine ae rfl fun _ k0 => ?_; simp only [zO, zT, acs, reduceCtorEq, V, O, Z, ad, ab, aa, Mly.av]; (repeat refine an ?_); (try refine .inl ?_); apply k0; clear k0; simp only [zP, O])
  refine ag ?_
  apply k13; clear k13; refine kp [0, 1, 2, 3, 11, 20, 23] ?_
  refine ax ?_
  refine ⟨nr, _, rfl, ?_⟩; simp only [zF, zP, V, O, Mly.av]
  refine VLE.of_eq ?_
  refine congrArg (fun n => AV.one (AC.int IntKind.i64 n)) ?_
  symm
  unfold bJ
  first
  | (rw [if_pos (by omega)]; done)
  | (rw [if_neg (by omega), if_pos (by omega)]; done)
  | (rw [if_neg (by omega), if_neg (by omega), if_pos (by omega)]; done)
  | (rw [if_neg (by omega), if_neg (by omega), if_neg (by omega), if_pos (by omega)]; done)
  | (rw [if_neg (by omega), if_neg (by omega), if_neg (by omega), if_neg (by omega), if_pos (by omega)]; done)
  | (rw [if_neg (by omega), if_neg (by omega), if_neg (by omega), if_neg (by omega), if_neg (by omega)]
     first
     | exact (bC hrows (by omega) (by rw [bS hc32.1 hc32.2 (j := j) (by omega) (by unfold bu; omega)]; decide)).trans (bS hc32.1 hc32.2 (by omega) (by unfold bu; omega))
     | exact (bC hrows (by omega) (by rw [bQ hc32]; decide)).trans (bQ hc32)
     | exact bW fun i hi => hrows i (by omega))
 (try simp only [zB, reduceCtorEq] at hc12)
 refine af fun _ k14 => ?_
 refine ah hP hN rfl ?_
 iterate 4 (refine ae rfl fun _ k0 => ?_; simp only [zO, zT, acs, reduceCtorEq, V, O, Z, ad, ab, aa, Mly.av]; (repeat refine an ?_); (try refine .inl ?_); apply k0; clear k0; simp only [zP, O])
 refine' aA (want := false) 4 rfl (m := 30) (by simp only [zP, V, O]; exact rfl) (by kernel_rfl) rfl rfl rfl rfl rfl (fun hg15 => ?a15) ?b15 ?c15
 case a15 =>
  have hq15 := hg15; (try simp only [zB, reduceCtorEq] at hg15); simp only [zE]
  iterate 4 (refine aQ rfl fun _ k0 => ?_; simp only [zO, zT, acs, reduceCtorEq, V, O, Z, ad, ab, aa, Mly.av]; (repeat refine an ?_); (try refine .inl ?_); apply k0; clear k0; simp only [zP, O])
  (refine ae rfl fun _ k0 => ?_; simp only [zO, zT, acs, reduceCtorEq, V, O, Z, ad, ab, aa, Mly.av]; (repeat refine an ?_); (try refine .inl ?_); apply k0; clear k0; simp only [zP, O])
  refine ag ?_
  refine ⟨by simp only [zP, V, O]; exact rfl, rfl, ?_, rfl⟩; (repeat refine az rfl ?_); exact aP (by exact rfl) hq15
 case b15 => exact bf
 simp only [aK, aF]
 (refine ae rfl fun _ k0 => ?_; simp only [zO, zT, acs, reduceCtorEq, V, O, Z, ad, ab, aa, Mly.av]; (repeat refine an ?_); (try refine .inl ?_); apply k0; clear k0; simp only [zP, O])
 refine ag ?_
 apply k14; clear k14; refine kp [0, 1, 2, 3, 11, 20, 23, 26] ?_
 refine cd (fun hc16 => ?_) (fun hc16 => ?_)
 ·(try simp only [zB, reduceCtorEq] at hc16)
  refine af fun _ k17 => ?_
  refine ah hP hN rfl ?_
  (refine ae rfl fun _ k0 => ?_; simp only [zO, zT, acs, reduceCtorEq, V, O, Z, ad, ab, aa, Mly.av]; (repeat refine an ?_); (try refine .inl ?_); apply k0; clear k0; simp only [zP, O])
  refine ag ?_
  apply k17; clear k17; refine kp [0, 1, 2, 3, 11, 20, 23, 26] ?_
  refine ax ?_
  refine ⟨nr, _, rfl, ?_⟩; simp only [zF, zP, V, O, Mly.av]
  refine VLE.of_eq ?_
  refine congrArg (fun n => AV.one (AC.int IntKind.i64 n)) ?_
  symm
  unfold bJ
  first
  | (rw [if_pos (by omega)]; done)
  | (rw [if_neg (by omega), if_pos (by omega)]; done)
  | (rw [if_neg (by omega), if_neg (by omega), if_pos (by omega)]; done)
  | (rw [if_neg (by omega), if_neg (by omega), if_neg (by omega), if_pos (by omega)]; done)
  | (rw [if_neg (by omega), if_neg (by omega), if_neg (by omega), if_neg (by omega), if_pos (by omega)]; done)
  | (rw [if_neg (by omega), if_neg (by omega), if_neg (by omega), if_neg (by omega), if_neg (by omega)]
     first
     | exact (bC hrows (by omega) (by rw [bS hc32.1 hc32.2 (j := j) (by omega) (by unfold bu; omega)]; decide)).trans (bS hc32.1 hc32.2 (by omega) (by unfold bu; omega))
     | exact (bC hrows (by omega) (by rw [bQ hc32]; decide)).trans (bQ hc32)
     | exact bW fun i hi => hrows i (by omega))
 (try simp only [zB, reduceCtorEq] at hc16)
 refine af fun _ k18 => ?_
 refine ah hP hN rfl ?_
 iterate 6 (refine ae rfl fun _ k0 => ?_; simp only [zO, zT, acs, reduceCtorEq, V, O, Z, ad, ab, aa, Mly.av]; (repeat refine an ?_); (try refine .inl ?_); apply k0; clear k0; simp only [zP, O])
 refine ag ?_
 apply k18; clear k18; refine kp [0, 1, 2, 3, 11, 20, 23, 26, 36] ?_
 refine cd (fun hc19 => ?_) (fun hc19 => ?_)
 ·(try simp only [zB, reduceCtorEq] at hc19)
  refine af fun _ k20 => ?_
  refine ah hP hN rfl ?_
  (refine ae rfl fun _ k0 => ?_; simp only [zO, zT, acs, reduceCtorEq, V, O, Z, ad, ab, aa, Mly.av]; (repeat refine an ?_); (try refine .inl ?_); apply k0; clear k0; simp only [zP, O])
  refine ag ?_
  apply k20; clear k20; refine kp [0, 1, 2, 3, 11, 20, 23, 26, 36] ?_
  refine ax ?_
  refine ⟨nr, _, rfl, ?_⟩; simp only [zF, zP, V, O, Mly.av]
  refine VLE.of_eq ?_
  refine congrArg (fun n => AV.one (AC.int IntKind.i64 n)) ?_
  symm
  unfold bJ
  first
  | (rw [if_pos (by omega)]; done)
  | (rw [if_neg (by omega), if_pos (by omega)]; done)
  | (rw [if_neg (by omega), if_neg (by omega), if_pos (by omega)]; done)
  | (rw [if_neg (by omega), if_neg (by omega), if_neg (by omega), if_pos (by omega)]; done)
  | (rw [if_neg (by omega), if_neg (by omega), if_neg (by omega), if_neg (by omega), if_pos (by omega)]; done)
  | (rw [if_neg (by omega), if_neg (by omega), if_neg (by omega), if_neg (by omega), if_neg (by omega)]
     first
     | exact (bC hrows (by omega) (by rw [bS hc32.1 hc32.2 (j := j) (by omega) (by unfold bu; omega)]; decide)).trans (bS hc32.1 hc32.2 (by omega) (by unfold bu; omega))
     | exact (bC hrows (by omega) (by rw [bQ hc32]; decide)).trans (bQ hc32)
     | exact bW fun i hi => hrows i (by omega))
 (try simp only [zB, reduceCtorEq] at hc19)
 refine ay ?_
 apply k3; clear k3; refine kp [0, 1, 2, 3, 11, 20, 23, 26, 36] ?_
 refine af fun _ k21 => ?_
 refine af fun _ k22 => ?_
 refine ah hP hN rfl ?_
 iterate 2 (refine ae rfl fun _ k0 => ?_; simp only [zO, zT, acs, reduceCtorEq, V, O, Z, ad, ab, aa, Mly.av]; (repeat refine an ?_); (try refine .inl ?_); apply k0; clear k0; simp only [zP, O])
 refine ag ?_
 apply k22; clear k22; refine kp [0, 1, 2, 3, 11, 20, 23, 26, 36, 42, 43] ?_
 refine aE ?_
 refine bn (fun n23 s23 => ∃ (k : Nat), (k ≤ m.nx.length) ∧ (∀ i, i < k → jc m i = 0) ∧ n23 = m.nx.length - k ∧ s23 = { env := [(1, .one (.ptr 0 0 0 0)), (3, .one (.int .i64 (m.nx.length : Int))), (42, .one (.int .i64 (m.nx.length : Int))), (43, .one (.int .i64 (k : Int)))], L := [.vars 27 [.int .i64 m.inp, .int .i64 m.st, .list (.list (.int .i64)) m.nx, .list (.list (.int .i64)) m.ot]] }) ?_ ?_
 ·exact ⟨_, _, aB [1, 3, 42, 43], 0, Nat.zero_le _, fun i hi => by omega, rfl, rfl⟩
 rintro n23 s23 ⟨k, hk, hrows, rfl, rfl⟩
 refine af fun _ k24 => ?_
 refine ah hP hN rfl ?_
 (refine ae rfl fun _ k0 => ?_; simp only [zO, zT, acs, reduceCtorEq, V, O, Z, ad, ab, aa, Mly.av]; (repeat refine an ?_); (try refine .inl ?_); apply k0; clear k0; simp only [zP, O])
 refine ag ?_
 apply k24; clear k24; refine kp [1, 3, 42, 43, 44] ?_
 refine af fun _ k25 => ?_
 refine cd (fun hc26 => ?_) (fun hc26 => ?_)
 ·(try simp only [zB, reduceCtorEq] at hc26)
  refine ay ?_
  apply k25; clear k25; refine kp [1, 3, 42, 43, 44] ?_
  refine af fun _ k27 => ?_
  refine aE ?_
  refine af fun _ k28 => ?_
  refine ah hP hN rfl ?_
  iterate 2 (refine ae rfl fun _ k0 => ?_; simp only [zO, zT, acs, reduceCtorEq, V, O, Z, ad, ab, aa, Mly.av]; (repeat refine an ?_); (try refine .inl ?_); apply k0; clear k0; simp only [zP, O])
  refine ag ?_
  apply k28; clear k28; refine kp [1, 3, 4, 42, 43, 44] ?_
  refine af fun _ k29 => ?_
  refine af fun _ k30 => ?_
  refine bZ hP hN Tryz.mixed rfl ?_
  iterate 10 (refine ae rfl fun _ k0 => ?_; simp only [zO, zT, acs, reduceCtorEq, V, O, Z, ad, ab, aa, Mly.av]; (repeat refine an ?_); (try refine .inl ?_); apply k0; clear k0; simp only [zP, O])
  refine' aA (want := false) 9 rfl (m := 55) (by simp only [zP, V, O]; exact rfl) (by kernel_rfl) rfl rfl rfl rfl rfl (fun hg31 => ?a31) ?b31 ?c31
  case a31 =>
   have hq31 := hg31; (try simp only [zB, reduceCtorEq] at hg31); simp only [zE]
   iterate 9 (refine aQ rfl fun _ k0 => ?_; simp only [zO, zT, acs, reduceCtorEq, V, O, Z, ad, ab, aa, Mly.av]; (repeat refine an ?_); (try refine .inl ?_); apply k0; clear k0; simp only [zP, O])
   (refine ae rfl fun _ k0 => ?_; simp only [zO, zT, acs, reduceCtorEq, V, O, Z, ad, ab, aa, Mly.av]; (repeat refine an ?_); (try refine .inl ?_); apply k0; clear k0; simp only [zP, O])
   refine ag ?_
   refine ⟨by simp only [zP, V, O]; exact rfl, rfl, ?_, rfl⟩; (repeat refine az rfl ?_); exact aP (by exact rfl) hq31
  case b31 => exact bf
  simp only [aK, aF]
  refine ag ?_
  refine ⟨by kernel_rfl, ?_⟩
  apply k30; clear k30; refine kp [1, 3, 4, 42, 43, 44, 65] ?_
  refine cd (fun hc32 => ?_) (fun hc32 => ?_)
  ·(try simp only [zB, reduceCtorEq] at hc32)
   refine af fun _ k33 => ?_
   refine ah hP hN rfl ?_
   (refine ae rfl fun _ k0 => ?_; simp only [zO, zT, acs, reduceCtorEq, V, O, Z, ad, ab, aa, Mly.av]; (repeat refine an ?_); (try refine .inl ?_); apply k0; clear k0; simp only [zP, O])
   refine ag ?_
   apply k33; clear k33; refine kp [1, 2, 3, 4, 42, 43, 44, 65] ?_
   refine ax ?_
   refine ⟨nr, _, rfl, ?_⟩; simp only [zF, zP, V, O, Mly.av]
   refine VLE.of_eq ?_
   refine congrArg (fun n => AV.one (AC.int IntKind.i64 n)) ?_
   symm
   unfold bJ
   first
   | (rw [if_pos (by omega)]; done)
   | (rw [if_neg (by omega), if_pos (by omega)]; done)
   | (rw [if_neg (by omega), if_neg (by omega), if_pos (by omega)]; done)
   | (rw [if_neg (by omega), if_neg (by omega), if_neg (by omega), if_pos (by omega)]; done)
   | (rw [if_neg (by omega), if_neg (by omega), if_neg (by omega), if_neg (by omega), if_pos (by omega)]; done)
   | (rw [if_neg (by omega), if_neg (by omega), if_neg (by omega), if_neg (by omega), if_neg (by omega)]
      first
      | exact (bC hrows (by omega) (by rw [bS hc32.1 hc32.2 (j := j) (by omega) (by unfold bu; omega)]; decide)).trans (bS hc32.1 hc32.2 (by omega) (by unfold bu; omega))
      | exact (bC hrows (by omega) (by rw [bQ hc32]; decide)).trans (bQ hc32)
      | exact bW fun i hi => hrows i (by omega))
  (try simp only [zB, reduceCtorEq] at hc32)
  refine ay ?_
  apply k29; clear k29; refine kp [1, 3, 4, 42, 43, 44, 65] ?_
  refine af fun _ k34 => ?_
  refine ah hP hN rfl ?_
  iterate 3 (refine ae rfl fun _ k0 => ?_; simp only [zO, zT, acs, reduceCtorEq, V, O, Z, ad, ab, aa, Mly.av]; (repeat refine an ?_); (try refine .inl ?_); apply k0; clear k0; simp only [zP, O])
  refine ag ?_
  apply k34; clear k34; refine kp [1, 3, 4, 42, 43, 44, 65, 67, 68] ?_
  refine aE ?_
  refine bn (fun n35 s35 => ∃ (j : Nat), ((j : Int) ≤ m.inp) ∧ (∀ a, a < j → ¬ bu m k a) ∧ n35 = m.inp.toNat - j ∧ s35 = { env := [(1, .one (.ptr 0 0 0 0)), (3, .one (.int .i64 (m.nx.length : Int))), (4, .one (.int .i64 (k : Int))), (42, .one (.int .i64 (m.nx.length : Int))), (43, .one (.int .i64 (k : Int))), (67, .one (.int .i64 m.inp)), (68, .one (.int .i64 (j : Int)))], L := [.vars 27 [.int .i64 m.inp, .int .i64 m.st, .list (.list (.int .i64)) m.nx, .list (.list (.int .i64)) m.ot]] }) ?_ ?_
  ·refine ⟨_, _, aB [1, 3, 4, 42, 43, 67, 68], 0, ?_, fun i hi => by omega, rfl, rfl⟩; omega
  rintro n35 s35 ⟨j, hj, hcells, rfl, rfl⟩
  refine af fun _ k36 => ?_
  refine ah hP hN rfl ?_
  (refine ae rfl fun _ k0 => ?_; simp only [zO, zT, acs, reduceCtorEq, V, O, Z, ad, ab, aa, Mly.av]; (repeat refine an ?_); (try refine .inl ?_); apply k0; clear k0; simp only [zP, O])
  refine ag ?_
  apply k36; clear k36; refine kp [1, 3, 4, 42, 43, 67, 68, 69] ?_
  refine af fun _ k37 => ?_
  refine cd (fun hc38 => ?_) (fun hc38 => ?_)
  ·(try simp only [zB, reduceCtorEq] at hc38)
   refine ay ?_
   apply k37; clear k37; refine kp [1, 3, 4, 42, 43, 67, 68, 69] ?_
   refine af fun _ k39 => ?_
   refine aE ?_
   refine af fun _ k40 => ?_
   refine ah hP hN rfl ?_
   iterate 2 (refine ae rfl fun _ k0 => ?_; simp only [zO, zT, acs, reduceCtorEq, V, O, Z, ad, ab, aa, Mly.av]; (repeat refine an ?_); (try refine .inl ?_); apply k0; clear k0; simp only [zP, O])
   refine ag ?_
   apply k40; clear k40; refine kp [1, 3, 4, 5, 42, 43, 67, 68, 69] ?_
   refine af fun _ k41 => ?_
   refine bZ hP hN Tryz.mixed rfl ?_
   iterate 18 (refine ae rfl fun _ k0 => ?_; simp only [zO, zT, acs, reduceCtorEq, V, O, Z, ad, ab, aa, Mly.av]; (repeat refine an ?_); (try refine .inl ?_); apply k0; clear k0; simp only [zP, O])
   refine ag ?_
   refine ⟨by kernel_rfl, ?_⟩
   apply k41; clear k41; refine kp [1, 3, 4, 5, 6, 7, 42, 43, 67, 68, 69] ?_
   refine af fun _ k42 => ?_
   refine ah hP hN rfl ?_
   iterate 3 (refine ae rfl fun _ k0 => ?_; simp only [zO, zT, acs, reduceCtorEq, V, O, Z, ad, ab, aa, Mly.av]; (repeat refine an ?_); (try refine .inl ?_); apply k0; clear k0; simp only [zP, O])
   refine' aA (want := false) 3 rfl (m := 89) (by simp only [zP, V, O]; exact rfl) (by kernel_rfl) rfl rfl rfl rfl rfl (fun hg43 => ?a43) ?b43 ?c43
   case a43 =>
    have hq43 := hg43; (try simp only [zB, reduceCtorEq] at hg43); simp only [zE]
    iterate 3 (refine aQ rfl fun _ k0 => ?_; simp only [zO, zT, acs, reduceCtorEq, V, O, Z, ad, ab, aa, Mly.av]; (repeat refine an ?_); (try refine .inl ?_); apply k0; clear k0; simp only [zP, O])
    (refine ae rfl fun _ k0 => ?_; simp only [zO, zT, acs, reduceCtorEq, V, O, Z, ad, ab, aa, Mly.av]; (repeat refine an ?_); (try refine .inl ?_); apply k0; clear k0; simp only [zP, O])
    refine ag ?_
    refine ⟨by simp only [zP, V, O]; exact rfl, rfl, ?_, rfl⟩; (repeat refine az rfl ?_); exact aP (by exact rfl) hq43
   case b43 => exact bf
   simp only [aK, aF]
   (refine ae rfl fun _ k0 => ?_; simp only [zO, zT, acs, reduceCtorEq, V, O, Z, ad, ab, aa, Mly.av]; (repeat refine an ?_); (try refine .inl ?_); apply k0; clear k0; simp only [zP, O])
   refine' aA (want := false) 2 rfl (m := 94) (by simp only [zP, V, O]; exact rfl) (by kernel_rfl) rfl rfl rfl rfl rfl (fun hg44 => ?a44) ?b44 ?c44
   case a44 =>
    have hq44 := hg44; (try simp only [zB, reduceCtorEq] at hg44); simp only [zE]
    iterate 2 (refine aQ rfl fun _ k0 => ?_; simp only [zO, zT, acs, reduceCtorEq, V, O, Z, ad, ab, aa, Mly.av]; (repeat refine an ?_); (try refine .inl ?_); apply k0; clear k0; simp only [zP, O])
    (refine ae rfl fun _ k0 => ?_; simp only [zO, zT, acs, reduceCtorEq, V, O, Z, ad, ab, aa, Mly.av]; (repeat refine an ?_); (try refine .inl ?_); apply k0; clear k0; simp only [zP, O])
    refine ag ?_
    refine ⟨by simp only [zP, V, O]; exact rfl, rfl, ?_, rfl⟩; (repeat refine az rfl ?_); exact aP (by exact rfl) hq44
   case b44 => exact bf
   simp only [aK, aF]
   (refine ae rfl fun _ k0 => ?_; simp only [zO, zT, acs, reduceCtorEq, V, O, Z, ad, ab, aa, Mly.av]; (repeat refine an ?_); (try refine .inl ?_); apply k0; clear k0; simp only [zP, O])
   refine' aA (want := false) 2 rfl (m := 98) (by simp only [zP, V, O]; exact rfl) (by kernel_rfl) rfl rfl rfl rfl rfl (fun hg45 => ?a45) ?b45 ?c45
   case a45 =>
    have hq45 := hg45; (try simp only [zB, reduceCtorEq] at hg45); simp only [zE]
    iterate 2 (refine aQ rfl fun _ k0 => ?_; simp only [zO, zT, acs, reduceCtorEq, V, O, Z, ad, ab, aa, Mly.av]; (repeat refine an ?_); (try refine .inl ?_); apply k0; clear k0; simp only [zP, O])
    (refine ae rfl fun _ k0 => ?_; simp only [zO, zT, acs, reduceCtorEq, V, O, Z, ad, ab, aa, Mly.av]; (repeat refine an ?_); (try refine .inl ?_); apply k0; clear k0; simp only [zP, O])
    refine ag ?_
    refine ⟨by simp only [zP, V, O]; exact rfl, rfl, ?_, rfl⟩; (repeat refine az rfl ?_); exact aP (by exact rfl) hq45
   case b45 => exact bf
   simp only [aK, aF]
   refine ag ?_
   apply k42; clear k42; refine kp [1, 3, 4, 5, 6, 7, 42, 43, 67, 68, 69, 101] ?_
   refine cd (fun hc46 => ?_) (fun hc46 => ?_)
   ·(try simp only [zB, reduceCtorEq] at hc46)
    refine af fun _ k47 => ?_
    refine ah hP hN rfl ?_
    (refine ae rfl fun _ k0 => ?_; simp only [zO, zT, acs, reduceCtorEq, V, O, Z, ad, ab, aa, Mly.av]; (repeat refine an ?_); (try refine .inl ?_); apply k0; clear k0; simp only [zP, O])
    refine ag ?_
    apply k47; clear k47; refine kp [1, 2, 3, 4, 5, 6, 7, 42, 43, 67, 68, 69, 101] ?_
    refine ax ?_
    refine ⟨nr, _, rfl, ?_⟩; simp only [zF, zP, V, O, Mly.av]
    refine VLE.of_eq ?_
    refine congrArg (fun n => AV.one (AC.int IntKind.i64 n)) ?_
    symm
    unfold bJ
    first
    | (rw [if_pos (by omega)]; done)
    | (rw [if_neg (by omega), if_pos (by omega)]; done)
    | (rw [if_neg (by omega), if_neg (by omega), if_pos (by omega)]; done)
    | (rw [if_neg (by omega), if_neg (by omega), if_neg (by omega), if_pos (by omega)]; done)
    | (rw [if_neg (by omega), if_neg (by omega), if_neg (by omega), if_neg (by omega), if_pos (by omega)]; done)
    | (rw [if_neg (by omega), if_neg (by omega), if_neg (by omega), if_neg (by omega), if_neg (by omega)]
       first
       | exact (bC hrows (by omega) (by rw [bS hc32.1 hc32.2 (j := j) (by omega) (by unfold bu; omega)]; decide)).trans (bS hc32.1 hc32.2 (by omega) (by unfold bu; omega))
       | exact (bC hrows (by omega) (by rw [bQ hc32]; decide)).trans (bQ hc32)
       | exact bW fun i hi => hrows i (by omega))
   (try simp only [zB, reduceCtorEq] at hc46)
   refine ay ?_
   apply k39; clear k39; refine kp [1, 3, 4, 5, 6, 7, 42, 43, 67, 68, 69, 101] ?_
   refine ah hP hN rfl ?_
   iterate 2 (refine ae rfl fun _ k0 => ?_; simp only [zO, zT, acs, reduceCtorEq, V, O, Z, ad, ab, aa, Mly.av]; (repeat refine an ?_); (try refine .inl ?_); apply k0; clear k0; simp only [zP, O])
   refine ag ?_
   refine ⟨_, _, ?_, aB [1, 3, 4, 42, 43, 67, 68], j + 1, ?_, fun a ha => ?_, rfl, rfl⟩
   · omega
   · omega
   · by_cases e : a = j
     · rw [e]; unfold bu; omega
     · exact hcells a (by omega)
  (try simp only [zB, reduceCtorEq] at hc38)
  refine bh ?_
  apply k27; clear k27; refine kp [1, 3, 4, 42, 43, 67, 68, 69] ?_
  refine ah hP hN rfl ?_
  iterate 2 (refine ae rfl fun _ k0 => ?_; simp only [zO, zT, acs, reduceCtorEq, V, O, Z, ad, ab, aa, Mly.av]; (repeat refine an ?_); (try refine .inl ?_); apply k0; clear k0; simp only [zP, O])
  refine ag ?_
  refine ⟨_, _, ?_, aB [1, 3, 42, 43], k + 1, by omega, fun i hi => ?_, rfl, rfl⟩
  · omega
  · by_cases e : i = k
    · rw [e]; exact uP hc32.1 hc32.2 fun a ha => hcells a (by omega)
    · exact hrows i (by omega)
 (try simp only [zB, reduceCtorEq] at hc26)
 refine bh ?_
 apply k21; clear k21; refine kp [1, 3, 42, 43, 44] ?_
 refine af fun _ k48 => ?_
 refine ah hP hN rfl ?_
 (refine ae rfl fun _ k0 => ?_; simp only [zO, zT, acs, reduceCtorEq, V, O, Z, ad, ab, aa, Mly.av]; (repeat refine an ?_); (try refine .inl ?_); apply k0; clear k0; simp only [zP, O])
 refine ag ?_
 apply k48; clear k48; refine kp [1, 2, 3, 42, 43, 44] ?_
 refine ax ?_
 refine ⟨nr, _, rfl, ?_⟩; simp only [zF, zP, V, O, Mly.av]
 refine VLE.of_eq ?_
 refine congrArg (fun n => AV.one (AC.int IntKind.i64 n)) ?_
 symm
 unfold bJ
 first
 | (rw [if_pos (by omega)]; done)
 | (rw [if_neg (by omega), if_pos (by omega)]; done)
 | (rw [if_neg (by omega), if_neg (by omega), if_pos (by omega)]; done)
 | (rw [if_neg (by omega), if_neg (by omega), if_neg (by omega), if_pos (by omega)]; done)
 | (rw [if_neg (by omega), if_neg (by omega), if_neg (by omega), if_neg (by omega), if_pos (by omega)]; done)
 | (rw [if_neg (by omega), if_neg (by omega), if_neg (by omega), if_neg (by omega), if_neg (by omega)]
    first
    | exact (bC hrows (by omega) (by rw [bS hc32.1 hc32.2 (j := j) (by omega) (by unfold bu; omega)]; decide)).trans (bS hc32.1 hc32.2 (by omega) (by unfold bu; omega))
    | exact (bC hrows (by omega) (by rw [bQ hc32]; decide)).trans (bQ hc32)
    | exact bW fun i hi => hrows i (by omega))
theorem vj (m : Mly) : bH Tryz.prog 23 [m.av] (.one (.list (.int .i64) (eR m))) := by
 refine aR Tryz.func23 rfl (by kernel_rfl) (Nat.le_of_ble_eq_true rfl) rfl fun C hP hN hB => ?_
 replace hN : C.N = 24 := hN
 simp only [aX, O]
 refine af fun _ k1 => ?_
 refine ah hP hN rfl ?_
 iterate 2 (refine ae rfl fun _ k0 => ?_; simp only [zO, zT, acs, reduceCtorEq, V, O, Z, ad, ab, aa, Mly.av]; (repeat refine an ?_); (try refine .inl ?_); apply k0; clear k0; simp only [zP, O])
 refine ag ?_
 apply k1; clear k1; refine kp [0, 1, 2] ?_
 refine af fun _ k2 => ?_
 refine af fun _ k3 => ?_
 refine ah hP hN rfl ?_
 (refine ae rfl fun _ k0 => ?_; simp only [zO, zT, acs, reduceCtorEq, V, O, Z, ad, ab, aa, Mly.av]; (repeat refine an ?_); (try refine .inl ?_); apply k0; clear k0; simp only [zP, O])
 refine ae rfl fun _ k0 => ?_
 refine aC (h := au (r9 m)) rfl rfl (by first | exact rfl | (simp only [ev, zP, V, O]; exact rfl)) (by simp only [zV, acs, reduceCtorEq, V, O, Z, ad, ab, aa, Mly.av]) ?_
 apply k0; clear k0; simp only [zP, O]
 (refine ae rfl fun _ k0 => ?_; simp only [zO, zT, acs, reduceCtorEq, V, O, Z, ad, ab, aa, Mly.av]; (repeat refine an ?_); (try refine .inl ?_); apply k0; clear k0; simp only [zP, O])
 refine ag ?_
 apply k3; clear k3; refine kp [0, 1, 2, 8] ?_
 refine cd (fun hc4 => ?_) (fun hc4 => ?_)
 ·(try simp only [zB, reduceCtorEq] at hc4)
  refine af fun _ k5 => ?_
  refine ah hP hN rfl ?_
  (refine ae rfl fun _ k0 => ?_; simp only [zO, zT, acs, reduceCtorEq, V, O, Z, ad, ab, aa, Mly.av]; (repeat refine an ?_); (try refine .inl ?_); apply k0; clear k0; simp only [zP, O])
  refine ag ?_
  apply k5; clear k5; refine kp [0, 1, 2, 8] ?_
  refine ax ?_
  refine ⟨nr, _, rfl, ?_⟩; simp only [zF, zP, V, O, Mly.av]
  first
  | (rw [oE ‹¬bJ m = 0›]; exact qY (dn rfl))
  | (rw [gZ hv]; exact VLE.of_eq rfl)
 (try simp only [zB, reduceCtorEq] at hc4)
 have hv : bJ m = 0 := by omega
 have hm := pH hv; have hol := hm.ol; have hi1 := hm.i1; have hi2 := hm.i2; have hn1 := hm.n1; have hn2 := hm.n2
 refine ay ?_
 apply k2; clear k2; refine kp [0, 1, 2, 8] ?_
 refine af fun _ k6 => ?_
 refine ah hP hN rfl ?_
 (refine ae rfl fun _ k0 => ?_; simp only [zO, zT, acs, reduceCtorEq, V, O, Z, ad, ab, aa, Mly.av]; (repeat refine an ?_); (try refine .inl ?_); apply k0; clear k0; simp only [zP, O])
 refine ag ?_
 apply k6; clear k6; refine kp [0, 1, 2, 3, 8] ?_
 refine af fun _ k7 => ?_
 refine af fun _ k8 => ?_
 refine ah hP hN rfl ?_
 iterate 4 (refine ae rfl fun _ k0 => ?_; simp only [zO, zT, acs, reduceCtorEq, V, O, Z, ad, ab, aa, Mly.av]; (repeat refine an ?_); (try refine .inl ?_); apply k0; clear k0; simp only [zP, O])
 refine ag ?_
 apply k8; clear k8; refine kp [0, 1, 2, 3, 8, 10, 11, 12] ?_
 refine aE ?_
 refine jR 3 (.int .i64) 3 (by decide) rfl ?_; simp only [ak, aw, am, ar, Nat.zero_add, O]
 refine bn (fun n9 s9 => ∃ (s : Nat) (v : Nat), (s ≤ m.ot.length) ∧ n9 = m.ot.length - s ∧ s9 = { env := [(3, .one (.row 1 v)), (10, .one (.list (.list (.int .i64)) m.ot)), (11, .one (.int .i64 (m.ot.length : Int))), (12, .one (.int .i64 (s : Int)))], L := [.vars 27 [.int .i64 m.inp, .int .i64 m.st, .list (.list (.int .i64)) m.nx, .list (.list (.int .i64)) m.ot], .row (.int .i64) 3 v (m.ot.take s).flatten] }) ?_ ?_
 ·exact ⟨_, _, aB [3, 10, 11, 12], 0, 0, Nat.zero_le _, rfl, rfl⟩
 rintro n9 s9 ⟨s, v, hs, rfl, rfl⟩
 refine af fun _ k10 => ?_
 refine ah hP hN rfl ?_
 (refine ae rfl fun _ k0 => ?_; simp only [zO, zT, acs, reduceCtorEq, V, O, Z, ad, ab, aa, Mly.av]; (repeat refine an ?_); (try refine .inl ?_); apply k0; clear k0; simp only [zP, O])
 refine ag ?_
 apply k10; clear k10; refine kp [3, 10, 11, 12, 13] ?_
 refine af fun _ k11 => ?_
 refine cd (fun hc12 => ?_) (fun hc12 => ?_)
 ·(try simp only [zB, reduceCtorEq] at hc12)
  refine ay ?_
  apply k11; clear k11; refine kp [3, 10, 11, 12, 13] ?_
  refine af fun _ k13 => ?_
  refine aE ?_
  refine af fun _ k14 => ?_
  refine ah hP hN rfl ?_
  iterate 3 (refine ae rfl fun _ k0 => ?_; simp only [zO, zT, acs, reduceCtorEq, V, O, Z, ad, ab, aa, Mly.av]; (repeat refine an ?_); (try refine .inl ?_); apply k0; clear k0; simp only [zP, O])
  refine ag ?_
  apply k14; clear k14; refine kp [3, 5, 10, 11, 12, 13] ?_
  have hf2 := ij hm (k := s + 1) (by omega); have hf3 := ij hm (k := s) (by omega); rw [eP _ (by omega), aq] at hf2
  refine ah hP hN rfl ?_
  iterate 4 (refine ae rfl fun _ k0 => ?_; simp only [zO, zT, acs, reduceCtorEq, V, O, Z, ad, ab, aa, Mly.av]; (repeat refine an ?_); (try refine .inl ?_); apply k0; clear k0; simp only [zP, O])
  refine ag ?_
  apply k13; clear k13; refine kp [3, 5, 10, 11, 12, 13] ?_
  refine ah hP hN rfl ?_
  iterate 2 (refine ae rfl fun _ k0 => ?_; simp only [zO, zT, acs, reduceCtorEq, V, O, Z, ad, ab, aa, Mly.av]; (repeat refine an ?_); (try refine .inl ?_); apply k0; clear k0; simp only [zP, O])
  refine ag ?_
  refine ⟨_, _, ?_, aB [3, 10, 11, 12], s + 1, v + 1, by omega, rfl, ?_⟩
  · omega
  · rw [eP _ (by omega)]; rfl
 (try simp only [zB, reduceCtorEq] at hc12)
 refine bh ?_
 apply k7; clear k7; refine kp [3, 10, 11, 12, 13] ?_
 refine af fun _ k15 => ?_
 have hsl : s = m.ot.length := by omega
 subst hsl
 rw [aD]
 have hf2 := ij hm (k := m.ot.length) (Nat.le_refl _); have hf3 := mg hm m.ot.length (Nat.le_refl _); rw [aD] at hf2 hf3
 have hp9 : (1 : Int) * 1 ≤ m.ot.length * m.inp := Int.mul_le_mul (by omega) (by omega) (by omega) (by omega)
 have hpos : 0 < m.ot.flatten.length := by omega
 refine ah hP hN rfl ?_
 (refine ae rfl fun _ k0 => ?_; simp only [zO, zT, acs, reduceCtorEq, V, O, Z, ad, ab, aa, Mly.av]; (repeat refine an ?_); (try refine .inl ?_); apply k0; clear k0; simp only [zP, O])
 refine ae rfl fun _ k0 => ?_
 refine aC (h := rz (k := 1) (ver := v) (xs := m.ot.flatten) uY rfl (by omega) (by omega)) rfl rfl (by first | exact rfl | (simp only [ev, zP, V, O]; exact rfl)) (by simp only [zV, acs, reduceCtorEq, V, O, Z, ad, ab, aa, Mly.av]) ?_
 apply k0; clear k0; simp only [zP, O]
 refine ag ?_
 apply k15; clear k15; refine kp [3, 10, 11, 12, 13] ?_
 refine af fun _ k16 => ?_
 refine ah hP hN rfl ?_
 (refine ae rfl fun _ k0 => ?_; simp only [zO, zT, acs, reduceCtorEq, V, O, Z, ad, ab, aa, Mly.av]; (repeat refine an ?_); (try refine .inl ?_); apply k0; clear k0; simp only [zP, O])
 refine ae rfl fun _ k0 => ?_
 refine aC (h := o0 (k := 1) (ver := v) (xs := fR m.ot.flatten) r7 rfl (by rw [nI]; omega) (by rw [nI]; omega) pb) rfl rfl (by first | exact rfl | (simp only [ev, zP, V, O]; exact rfl)) (by simp only [zV, acs, reduceCtorEq, V, O, Z, ad, ab, aa, Mly.av]) ?_
 apply k0; clear k0; simp only [zP, O]
 (refine ae rfl fun _ k0 => ?_; simp only [zO, zT, acs, reduceCtorEq, V, O, Z, ad, ab, aa, Mly.av]; (repeat refine an ?_); (try refine .inl ?_); apply k0; clear k0; simp only [zP, O])
 refine ag ?_
 apply k16; clear k16; refine kp [2, 3, 10, 11, 12, 13] ?_
 refine ax ?_
 refine ⟨nr, _, rfl, ?_⟩; simp only [zF, zP, V, O, Mly.av]
 first
 | (rw [oE ‹¬bJ m = 0›]; exact qY (dn rfl))
 | (rw [gZ hv]; exact VLE.of_eq rfl)
theorem rn (x : Mdl) : bH Tryz.prog 9 [x.av] (.one (.int .i64 (mvE x))) := by
 refine aR Tryz.func9 rfl (by kernel_rfl) (Nat.le_of_ble_eq_true rfl) rfl fun C hP hN hB => ?_
 replace hN : C.N = 52 := hN
 simp only [aX, O]
 refine af fun _ k1 => ?_
 refine ah hP hN rfl ?_
 iterate 2 (refine ae rfl fun _ k0 => ?_; simp only [zO, zT, acs, reduceCtorEq, V, O, Z, ad, ab, aa, Mdl.av, Mdl.cs]; (repeat refine an ?_); (try refine .inl ?_); apply k0; clear k0; simp only [zP, O])
 refine ag ?_
 apply k1; clear k1; refine kp [0, 1, 2] ?_
 refine af fun _ k2 => ?_
 refine af fun _ k3 => ?_
 refine ah hP hN rfl ?_
 iterate 2 (refine ae rfl fun _ k0 => ?_; simp only [zO, zT, acs, reduceCtorEq, V, O, Z, ad, ab, aa, Mdl.av, Mdl.cs]; (repeat refine an ?_); (try refine .inl ?_); apply k0; clear k0; simp only [zP, O])
 refine ae rfl fun _ k0 => ?_
 refine aC (h := au (md x.nm)) rfl rfl (by first | exact rfl | (simp only [ev, zP, V, O]; exact rfl)) (by simp only [zV, acs, reduceCtorEq, V, O, Z, ad, ab, aa, Mdl.av, Mdl.cs]) ?_
 apply k0; clear k0; simp only [zP, O]
 (refine ae rfl fun _ k0 => ?_; simp only [zO, zT, acs, reduceCtorEq, V, O, Z, ad, ab, aa, Mdl.av, Mdl.cs]; (repeat refine an ?_); (try refine .inl ?_); apply k0; clear k0; simp only [zP, O])
 refine ag ?_
 apply k3; clear k3; refine kp [0, 1, 2, 11] ?_
 refine cd (fun hc4 => ?_) (fun hc4 => ?_)
 ·(try simp only [zB, reduceCtorEq] at hc4)
  refine af fun _ k5 => ?_
  refine ah hP hN rfl ?_
  (refine ae rfl fun _ k0 => ?_; simp only [zO, zT, acs, reduceCtorEq, V, O, Z, ad, ab, aa, Mdl.av, Mdl.cs]; (repeat refine an ?_); (try refine .inl ?_); apply k0; clear k0; simp only [zP, O])
  refine ag ?_
  apply k5; clear k5; refine kp [0, 1, 2, 11] ?_
  refine ax ?_
  refine ⟨nr, _, rfl, ?_⟩; simp only [zF, zP, V, O, Mdl.av, Mdl.cs]
  refine VLE.of_eq ?_
  refine congrArg (fun n => AV.one (AC.int IntKind.i64 n)) ?_
  symm
  first
  | exact qZ (by assumption)
  | exact qM (by assumption) (by omega) hq (by assumption)
  | (have hi0 : alE x.ins = 0 := hq 0 (by omega)
     have hi1 : alE x.outs = 0 := hq 1 (by omega)
     first
     | exact qj (by assumption) hi0 hi1 (by assumption)
     | exact qu (by assumption) hi0 hi1 (by assumption) (by omega)
     | exact oX (by assumption) hi0 hi1 (by assumption) (by assumption))
 (try simp only [zB, reduceCtorEq] at hc4)
 refine ay ?_
 apply k2; clear k2; refine kp [0, 1, 2, 11] ?_
 refine af fun _ k6 => ?_
 refine af fun _ k7 => ?_
 refine ah hP hN rfl ?_
 iterate 6 (refine ae rfl fun _ k0 => ?_; simp only [zO, zT, acs, reduceCtorEq, V, O, Z, ad, ab, aa, Mdl.av, Mdl.cs]; (repeat refine an ?_); (try refine .inl ?_); apply k0; clear k0; simp only [zP, O])
 refine ag ?_
 apply k7; clear k7; refine kp [0, 1, 2, 11, 16, 17] ?_
 refine aE ?_
 refine bn (fun n8 s8 => ∃ (k : Nat), (k ≤ 2) ∧ (∀ q, q < k → alE ([x.ins, x.outs].getD q []) = 0) ∧ n8 = 2 - k ∧ s8 = { env := [(1, .one (.ptr 0 0 0 0)), (2, .one (.int .i64 0)), (16, .agg [.list .str x.ins, .list .str x.outs]), (17, .one (.int .i64 (k : Int)))], L := [.vars 29 [.str x.nm, .list .str x.ins, .list .str x.outs, .int .i64 x.m.inp, .int .i64 x.m.st, .list (.list (.int .i64)) x.m.nx, .list (.list (.int .i64)) x.m.ot]] }) ?_ ?_
 ·exact ⟨_, _, aB [1, 2, 16, 17], 0, Nat.zero_le _, fun q hq => by omega, rfl, rfl⟩
 rintro n8 s8 ⟨k, hk, hq, rfl, rfl⟩
 refine af fun _ k9 => ?_
 refine ah hP hN rfl ?_
 (refine ae rfl fun _ k0 => ?_; simp only [zO, zT, acs, reduceCtorEq, V, O, Z, ad, ab, aa, Mdl.av, Mdl.cs]; (repeat refine an ?_); (try refine .inl ?_); apply k0; clear k0; simp only [zP, O])
 refine ag ?_
 apply k9; clear k9; refine kp [1, 2, 16, 17, 18] ?_
 refine af fun _ k10 => ?_
 refine cd (fun hc11 => ?_) (fun hc11 => ?_)
 ·(try simp only [zB, reduceCtorEq] at hc11)
  refine ay ?_
  apply k10; clear k10; refine kp [1, 2, 16, 17, 18] ?_
  refine af fun _ k12 => ?_
  refine aE ?_
  refine af fun _ k13 => ?_
  have hk1 : k ≤ 1 := by omega
  have htk : List.take 1 (List.drop k [AC.list Ty.str x.ins, AC.list Ty.str x.outs]) = [AC.list Ty.str ([x.ins, x.outs].getD k [])] := by rcases (show k = 0 ∨ k = 1 by omega) with rfl | rfl <;> rfl
  refine ah hP hN rfl ?_
  iterate 3 (refine ae rfl fun _ k0 => ?_; simp only [zO, zT, acs, reduceCtorEq, V, O, Z, ad, ab, aa, Mdl.av, Mdl.cs, hk1, if_true, htk]; (repeat refine an ?_); (try refine .inl ?_); apply k0; clear k0; simp only [zP, O])
  refine ag ?_
  apply k13; clear k13; refine kp [1, 2, 4, 16, 17, 18] ?_
  refine af fun _ k14 => ?_
  refine ah hP hN rfl ?_
  (refine ae rfl fun _ k0 => ?_; simp only [zO, zT, acs, reduceCtorEq, V, O, Z, ad, ab, aa, Mdl.av, Mdl.cs]; (repeat refine an ?_); (try refine .inl ?_); apply k0; clear k0; simp only [zP, O])
  refine ae rfl fun _ k0 => ?_
  refine aC (h := au (jg ([x.ins, x.outs].getD k []))) rfl rfl (by first | exact rfl | (simp only [ev, zP, V, O]; exact rfl)) (by simp only [zV, acs, reduceCtorEq, V, O, Z, ad, ab, aa, Mdl.av, Mdl.cs]) ?_
  apply k0; clear k0; simp only [zP, O]
  (refine ae rfl fun _ k0 => ?_; simp only [zO, zT, acs, reduceCtorEq, V, O, Z, ad, ab, aa, Mdl.av, Mdl.cs]; (repeat refine an ?_); (try refine .inl ?_); apply k0; clear k0; simp only [zP, O])
  refine ag ?_
  apply k14; clear k14; refine kp [1, 2, 4, 5, 16, 17, 18] ?_
  refine af fun _ k15 => ?_
  refine ah hP hN rfl ?_
  iterate 2 (refine ae rfl fun _ k0 => ?_; simp only [zO, zT, acs, reduceCtorEq, V, O, Z, ad, ab, aa, Mdl.av, Mdl.cs]; (repeat refine an ?_); (try refine .inl ?_); apply k0; clear k0; simp only [zP, O])
  refine ag ?_
  apply k15; clear k15; refine kp [1, 2, 4, 5, 16, 17, 18, 23] ?_
  refine cd (fun hc16 => ?_) (fun hc16 => ?_)
  ·(try simp only [zB, reduceCtorEq] at hc16)
   refine af fun _ k17 => ?_
   refine ah hP hN rfl ?_
   iterate 2 (refine ae rfl fun _ k0 => ?_; simp only [zO, zT, acs, reduceCtorEq, V, O, Z, ad, ab, aa, Mdl.av, Mdl.cs]; (repeat refine an ?_); (try refine .inl ?_); apply k0; clear k0; simp only [zP, O])
   refine ag ?_
   apply k17; clear k17; refine kp [1, 2, 4, 5, 16, 17, 18, 23] ?_
   refine ax ?_
   refine ⟨nr, _, rfl, ?_⟩; simp only [zF, zP, V, O, Mdl.av, Mdl.cs]
   refine VLE.of_eq ?_
   refine congrArg (fun n => AV.one (AC.int IntKind.i64 n)) ?_
   symm
   first
   | exact qZ (by assumption)
   | exact qM (by assumption) (by omega) hq (by assumption)
   | (have hi0 : alE x.ins = 0 := hq 0 (by omega)
      have hi1 : alE x.outs = 0 := hq 1 (by omega)
      first
      | exact qj (by assumption) hi0 hi1 (by assumption)
      | exact qu (by assumption) hi0 hi1 (by assumption) (by omega)
      | exact oX (by assumption) hi0 hi1 (by assumption) (by assumption))
  (try simp only [zB, reduceCtorEq] at hc16)
  refine ay ?_
  apply k12; clear k12; refine kp [1, 2, 4, 5, 16, 17, 18, 23] ?_
  refine kp [1, 2, 16, 17] ?_
  refine dA (L1 := [_]) rfl (by rw [hB]; exact Nat.zero_le _) rfl rfl ?_
  refine ah hP hN rfl ?_
  iterate 2 (refine ae rfl fun _ k0 => ?_; simp only [zO, zT, acs, reduceCtorEq, V, O, Z, ad, ab, aa, Mdl.av, Mdl.cs]; (repeat refine an ?_); (try refine .inl ?_); apply k0; clear k0; simp only [zP, O])
  refine ag ?_
  refine ⟨_, _, ?_, aB [1, 2, 16, 17], k + 1, by omega, fun q hq2 => ?_, rfl, rfl⟩
  · omega
  · by_cases e : q = k
    · rw [e]; omega
    · exact hq q (by omega)
 (try simp only [zB, reduceCtorEq] at hc11)
 refine bh ?_
 apply k6; clear k6; refine kp [1, 2, 16, 17, 18] ?_
 refine af fun _ k18 => ?_
 refine af fun _ k19 => ?_
 refine ah hP hN rfl ?_
 iterate 2 (refine ae rfl fun _ k0 => ?_; simp only [zO, zT, acs, reduceCtorEq, V, O, Z, ad, ab, aa, Mdl.av, Mdl.cs]; (repeat refine an ?_); (try refine .inl ?_); apply k0; clear k0; simp only [zP, O])
 refine ae rfl fun _ k0 => ?_
 refine aC (h := au (r9 x.m)) rfl rfl (by first | exact rfl | (simp only [ev, zP, V, O]; exact rfl)) (by simp only [zV, acs, reduceCtorEq, V, O, Z, ad, ab, aa, Mdl.av, Mdl.cs]) ?_
 apply k0; clear k0; simp only [zP, O]
 (refine ae rfl fun _ k0 => ?_; simp only [zO, zT, acs, reduceCtorEq, V, O, Z, ad, ab, aa, Mdl.av, Mdl.cs]; (repeat refine an ?_); (try refine .inl ?_); apply k0; clear k0; simp only [zP, O])
 refine ag ?_
 apply k19; clear k19; refine kp [1, 2, 6, 16, 17, 18] ?_
 refine af fun _ k20 => ?_
 refine ah hP hN rfl ?_
 iterate 2 (refine ae rfl fun _ k0 => ?_; simp only [zO, zT, acs, reduceCtorEq, V, O, Z, ad, ab, aa, Mdl.av, Mdl.cs]; (repeat refine an ?_); (try refine .inl ?_); apply k0; clear k0; simp only [zP, O])
 refine ag ?_
 apply k20; clear k20; refine kp [1, 2, 6, 16, 17, 18, 30] ?_
 refine cd (fun hc21 => ?_) (fun hc21 => ?_)
 ·(try simp only [zB, reduceCtorEq] at hc21)
  refine af fun _ k22 => ?_
  refine ah hP hN rfl ?_
  iterate 2 (refine ae rfl fun _ k0 => ?_; simp only [zO, zT, acs, reduceCtorEq, V, O, Z, ad, ab, aa, Mdl.av, Mdl.cs]; (repeat refine an ?_); (try refine .inl ?_); apply k0; clear k0; simp only [zP, O])
  refine ag ?_
  apply k22; clear k22; refine kp [1, 2, 6, 16, 17, 18, 30] ?_
  refine ax ?_
  refine ⟨nr, _, rfl, ?_⟩; simp only [zF, zP, V, O, Mdl.av, Mdl.cs]
  refine VLE.of_eq ?_
  refine congrArg (fun n => AV.one (AC.int IntKind.i64 n)) ?_
  symm
  first
  | exact qZ (by assumption)
  | exact qM (by assumption) (by omega) hq (by assumption)
  | (have hi0 : alE x.ins = 0 := hq 0 (by omega)
     have hi1 : alE x.outs = 0 := hq 1 (by omega)
     first
     | exact qj (by assumption) hi0 hi1 (by assumption)
     | exact qu (by assumption) hi0 hi1 (by assumption) (by omega)
     | exact oX (by assumption) hi0 hi1 (by assumption) (by assumption))
 (try simp only [zB, reduceCtorEq] at hc21)
 refine ay ?_
 apply k18; clear k18; refine kp [1, 2, 6, 16, 17, 18, 30] ?_
 refine af fun _ k23 => ?_
 refine ah hP hN rfl ?_
 iterate 2 (refine ae rfl fun _ k0 => ?_; simp only [zO, zT, acs, reduceCtorEq, V, O, Z, ad, ab, aa, Mdl.av, Mdl.cs]; (repeat refine an ?_); (try refine .inl ?_); apply k0; clear k0; simp only [zP, O])
 refine ae rfl fun _ k0 => ?_
 refine aC (h := au (vj x.m)) rfl rfl (by first | exact rfl | (simp only [ev, zP, V, O]; exact rfl)) (by simp only [zV, acs, reduceCtorEq, V, O, Z, ad, ab, aa, Mdl.av, Mdl.cs]) ?_
 apply k0; clear k0; simp only [zP, O]
 (refine ae rfl fun _ k0 => ?_; simp only [zO, zT, acs, reduceCtorEq, V, O, Z, ad, ab, aa, Mdl.av, Mdl.cs]; (repeat refine an ?_); (try refine .inl ?_); apply k0; clear k0; simp only [zP, O])
 refine ag ?_
 apply k23; clear k23; refine kp [1, 2, 6, 7, 16, 17, 18, 30] ?_
 refine af fun _ k24 => ?_
 refine af fun _ k25 => ?_
 refine bZ hP hN Tryz.mixed rfl ?_
 iterate 9 (refine ae rfl fun _ k0 => ?_; simp only [zO, zT, acs, reduceCtorEq, V, O, Z, ad, ab, aa, Mdl.av, Mdl.cs]; (repeat refine an ?_); (try refine .inl ?_); apply k0; clear k0; simp only [zP, O])
 refine' aA (want := false) 7 rfl (m := 43) (by simp only [zP, V, O]; exact rfl) (by kernel_rfl) rfl rfl rfl rfl rfl (fun hg26 => ?a26) ?b26 ?c26
 case a26 =>
  have hq26 := hg26; (try simp only [zB, reduceCtorEq] at hg26); simp only [zE]
  (refine aQ rfl fun _ k0 => ?_; simp only [zO, zT, acs, reduceCtorEq, V, O, Z, ad, ab, aa, Mdl.av, Mdl.cs]; (repeat refine an ?_); (try refine .inl ?_); apply k0; clear k0; simp only [zP, O])
  refine aQ rfl fun _ k0 => ?_
  refine aC (h := au (wc (eR x.m) (vN (by omega)))) rfl rfl (by first | exact rfl | (simp only [ev, zP, V, O]; exact rfl)) (by simp only [zV, acs, reduceCtorEq, V, O, Z, ad, ab, aa, Mdl.av, Mdl.cs]) ?_
  apply k0; clear k0; simp only [zP, O]
  iterate 5 (refine aQ rfl fun _ k0 => ?_; simp only [zO, zT, acs, reduceCtorEq, V, O, Z, ad, ab, aa, Mdl.av, Mdl.cs]; (repeat refine an ?_); (try refine .inl ?_); apply k0; clear k0; simp only [zP, O])
  (refine ae rfl fun _ k0 => ?_; simp only [zO, zT, acs, reduceCtorEq, V, O, Z, ad, ab, aa, Mdl.av, Mdl.cs]; (repeat refine an ?_); (try refine .inl ?_); apply k0; clear k0; simp only [zP, O])
  refine ag ?_
  refine ⟨by simp only [zP, V, O]; exact rfl, rfl, ?_, rfl⟩; (repeat refine az rfl ?_); exact aP (by exact rfl) hq26
 case b26 => exact bf
 simp only [aK, aF]
 refine ag ?_
 refine ⟨by kernel_rfl, ?_⟩
 apply k25; clear k25; refine kp [1, 2, 6, 7, 16, 17, 18, 30, 51] ?_
 refine cd (fun hc27 => ?_) (fun hc27 => ?_)
 ·(try simp only [zB, reduceCtorEq] at hc27)
  refine af fun _ k28 => ?_
  refine ah hP hN rfl ?_
  (refine ae rfl fun _ k0 => ?_; simp only [zO, zT, acs, reduceCtorEq, V, O, Z, ad, ab, aa, Mdl.av, Mdl.cs]; (repeat refine an ?_); (try refine .inl ?_); apply k0; clear k0; simp only [zP, O])
  refine ag ?_
  apply k28; clear k28; refine kp [1, 2, 6, 7, 16, 17, 18, 30, 51] ?_
  refine ax ?_
  refine ⟨nr, _, rfl, ?_⟩; simp only [zF, zP, V, O, Mdl.av, Mdl.cs]
  refine VLE.of_eq ?_
  refine congrArg (fun n => AV.one (AC.int IntKind.i64 n)) ?_
  symm
  first
  | exact qZ (by assumption)
  | exact qM (by assumption) (by omega) hq (by assumption)
  | (have hi0 : alE x.ins = 0 := hq 0 (by omega)
     have hi1 : alE x.outs = 0 := hq 1 (by omega)
     first
     | exact qj (by assumption) hi0 hi1 (by assumption)
     | exact qu (by assumption) hi0 hi1 (by assumption) (by omega)
     | exact oX (by assumption) hi0 hi1 (by assumption) (by assumption))
 (try simp only [zB, reduceCtorEq] at hc27)
 refine ay ?_
 apply k24; clear k24; refine kp [1, 2, 6, 7, 16, 17, 18, 30, 51] ?_
 refine af fun _ k29 => ?_
 refine ah hP hN rfl ?_
 (refine ae rfl fun _ k0 => ?_; simp only [zO, zT, acs, reduceCtorEq, V, O, Z, ad, ab, aa, Mdl.av, Mdl.cs]; (repeat refine an ?_); (try refine .inl ?_); apply k0; clear k0; simp only [zP, O])
 refine ag ?_
 apply k29; clear k29; refine kp [1, 2, 6, 7, 16, 17, 18, 30, 51] ?_
 refine ax ?_
 refine ⟨nr, _, rfl, ?_⟩; simp only [zF, zP, V, O, Mdl.av, Mdl.cs]
 refine VLE.of_eq ?_
 refine congrArg (fun n => AV.one (AC.int IntKind.i64 n)) ?_
 symm
 first
 | exact qZ (by assumption)
 | exact qM (by assumption) (by omega) hq (by assumption)
 | (have hi0 : alE x.ins = 0 := hq 0 (by omega)
    have hi1 : alE x.outs = 0 := hq 1 (by omega)
    first
    | exact qj (by assumption) hi0 hi1 (by assumption)
    | exact qu (by assumption) hi0 hi1 (by assumption) (by omega)
    | exact oX (by assumption) hi0 hi1 (by assumption) (by assumption))
open Go.Shelf in
def Tryz.lays156_ren : Go.Shelf.Ren := ⟨fun | 156 => 17 | 165 => 37 | 166 => 38 | 169 => 39 | 240 => 56 | 241 => 57 | 276 => 68 | 277 => 69 | n => n, fun | 31 => 22 | 9 => 9 | 3 => 3 | 4 => 4 | 0 => 0 | 20 => 20 | 72 => 77 | 76 => 81 | 70 => 74 | 37 => 75 | 75 => 80 | 127 => 99 | 164 => 108 | 5 => 5 | 80 => 83 | n => n, fun | n => n⟩
theorem Tryz.lays156 : Go.Proofs.Lays.n156 Tryz.prog Tryz.lays156_ren := {
  mixed := by kernel_rfl,
  f156 := Tryz.func17.trans (congrArg some (by kernel_rfl)),
  f165 := Tryz.func37.trans (congrArg some (by kernel_rfl)),
  f166 := Tryz.func38.trans (congrArg some (by kernel_rfl)),
  f169 := Tryz.func39.trans (congrArg some (by kernel_rfl)),
  f240 := Tryz.func56.trans (congrArg some (by kernel_rfl)),
  f241 := Tryz.func57.trans (congrArg some (by kernel_rfl)),
  f276 := Tryz.func68.trans (congrArg some (by kernel_rfl)),
  f277 := Tryz.func69.trans (congrArg some (by kernel_rfl)),
  t0 := Tryz.underlying0,
  a0 := Tryz.isAgg0,
  z0 := Tryz.sizeOf0,
  v0 := Tryz.zeroValue0,
  t3 := Tryz.underlying3,
  a3 := Tryz.isAgg3,
  z3 := Tryz.sizeOf3,
  v3 := Tryz.zeroValue3,
  t4 := Tryz.underlying4,
  a4 := Tryz.isAgg4,
  z4 := Tryz.sizeOf4,
  v4 := Tryz.zeroValue4,
  t9 := Tryz.underlying9,
  a9 := Tryz.isAgg9,
  z9 := Tryz.sizeOf9,
  v9 := Tryz.zeroValue9,
  t20 := Tryz.underlying20,
  a20 := Tryz.isAgg20,
  z20 := Tryz.sizeOf20,
  v20 := Tryz.zeroValue20,
  t31 := Tryz.underlying22,
  a31 := Tryz.isAgg22,
  z31 := Tryz.sizeOf22,
  v31 := Tryz.zeroValue22,
  t37 := Tryz.underlying75,
  a37 := Tryz.isAgg75,
  z37 := Tryz.sizeOf75,
  v37 := Tryz.zeroValue75,
  t70 := Tryz.underlying74,
  a70 := Tryz.isAgg74,
  z70 := Tryz.sizeOf74,
  v70 := Tryz.zeroValue74,
  t72 := Tryz.underlying77,
  a72 := Tryz.isAgg77,
  z72 := Tryz.sizeOf77,
  v72 := Tryz.zeroValue77,
  t75 := Tryz.underlying80,
  a75 := Tryz.isAgg80,
  z75 := Tryz.sizeOf80,
  v75 := Tryz.zeroValue80,
  t76 := Tryz.underlying81,
  a76 := Tryz.isAgg81,
  z76 := Tryz.sizeOf81,
  v76 := Tryz.zeroValue81,
  t127 := Tryz.underlying99,
  a127 := Tryz.isAgg99,
  z127 := Tryz.sizeOf99,
  v127 := Tryz.zeroValue99,
  t164 := Tryz.underlying108,
  a164 := Tryz.isAgg108,
  z164 := Tryz.sizeOf108,
  v164 := Tryz.zeroValue108 }
theorem qa : Builder.Extra Tryz.prog Tryz.lays156_ren where
  sizeBuilder := by kernel_rfl
  liesBuilder := by kernel_rfl
  t5 := Tryz.underlying5
  a5 := Tryz.isAgg5
  z5 := Tryz.sizeOf5
  v5 := Tryz.zeroValue5
  infoByte := by kernel_rfl
  cellsByte := by kernel_rfl
  sizeByte := by kernel_rfl
  neB5 := by decide
theorem gy (xs : List (List UInt8)) (sep : List UInt8) (h1 : xs.length ≤ 140737488355328) (h2 : (Lib.join xs sep).length ≤ 140737488355328) : bH Tryz.prog 17 [.one (.list .str xs), .one (.str sep)] (.one (.str (Lib.join xs sep))) := by
  refine ⟨⟨Tryz.f17, Tryz.func17, by kernel_rfl, by kernel_rfl⟩, fun C L σ w vs hP hi ha => ?_⟩
  cases vs with
  | nil => exact ha.elim
  | cons v vs =>
  cases vs with
  | nil => exact ha.2.elim
  | cons v2 vs =>
  cases vs with
  | cons _ _ => exact ha.2.2.elim
  | nil =>
  obtain ⟨hv, hv2, _⟩ := ha
  have e2 : v2 = .string ⟨sep.toArray⟩ := hv2.2
  subst e2
  have hd : Dat (avd C L σ) w (.list .str) xs [v] := hv.2
  obtain ⟨A, c, e1, hc, _, hel⟩ := hd
  obtain ⟨rfl, _⟩ := List.cons.inj e1
  cases xs with
  | nil => 
    refine Calls.mono (Any.strings_Join_none Tryz.lays156 qa A c ⟨sep.toArray⟩ w) fun e w' hh => ?_
    obtain ⟨e3, rfl⟩ := hh
    exact ⟨_, e3, MORE.refl _, rfl, by rw [Lib.join_nil]; rfl⟩
  | cons x xs =>
    obtain ⟨b, o, rfl, _, hb, hcl⟩ := hel (Nat.succ_pos _)
    have hm : ∀ l : List (List UInt8), (l.map fun x => (⟨x.toArray⟩ : ByteArray)).map (·.data.toList) = l := fun l => by
      rw [List.map_map]
      exact (List.map_congr_left fun a _ => rfl).trans (List.map_id l)
    have h := Any.strings_Join Tryz.lays156 qa b o c ((x :: xs).map fun x => (⟨x.toArray⟩ : ByteArray)) ⟨sep.toArray⟩ w (fun j y hj => by
      rw [List.getElem?_map] at hj
      obtain ⟨z, hz, rfl⟩ := Option.map_eq_some_iff.1 hj
      have hlt := (List.getElem?_eq_some_iff.1 hz).1
      obtain ⟨cs', l1, l2, l3⟩ := hcl j hlt
      have l4 := l2 0 (by decide)
      have e5 : cs' = [.string ⟨(List.getD (x :: xs) j []).toArray⟩] := l3
      rw [e5] at l4
      have e6 : List.getD (x :: xs) j [] = z := by simp [List.getD, hz]
      rw [e6] at l4
      have e7 : o + j * Ty.str.size + 0 = o + j := by show o + j * 1 + 0 = o + j; omega
      rw [e7] at l4
      exact l4) hb (by rw [c0]; exact h1) (by rw [c0]; exact hc) (by rw [hm]; exact h2)
    rw [hm, c0] at h
    refine Calls.mono h fun e w' hh => ?_
    obtain ⟨e3, hw⟩ := hh
    exact ⟨_, e3, ⟨hw.size, hw.os, hw.tape, hw.output, hw.block⟩, rfl, rfl⟩
set_option maxHeartbeats 2000000 in
theorem uk (x : Mdl) (hb : mvE x = 0 → x.m.nx.length ≤ 100) : bH Tryz.prog 7 [x.av] (.tup [.one (.str (SM x)), .one (.int .i64 (mvE x))]) := by
 refine aR Tryz.func7 rfl (by kernel_rfl) (Nat.le_of_ble_eq_true rfl) rfl fun C hP hN hB => ?_
 replace hN : C.N = 110 := hN
 simp only [aX, O]
 refine af fun _ k1 => ?_
 refine ah hP hN rfl ?_
 iterate 3 (refine ae rfl fun _ k0 => ?_; simp only [zO, zT, acs, reduceCtorEq, V, O, Z, ad, ab, aa, Mdl.av, Mdl.cs]; (repeat refine an ?_); (try refine .inl ?_); apply k0; clear k0; simp only [zP, O])
 refine ag ?_
 apply k1; clear k1; refine kp [0, 1, 2, 3] ?_
 refine af fun _ k2 => ?_
 refine af fun _ k3 => ?_
 refine ah hP hN rfl ?_
 (refine ae rfl fun _ k0 => ?_; simp only [zO, zT, acs, reduceCtorEq, V, O, Z, ad, ab, aa, Mdl.av, Mdl.cs]; (repeat refine an ?_); (try refine .inl ?_); apply k0; clear k0; simp only [zP, O])
 refine ae rfl fun _ k0 => ?_
 refine aC (h := au (rn x)) rfl rfl (by first | exact rfl | (simp only [ev, zP, V, O]; exact rfl)) (by simp only [zV, acs, reduceCtorEq, V, O, Z, ad, ab, aa, Mdl.av, Mdl.cs]) ?_
 apply k0; clear k0; simp only [zP, O]
 (refine ae rfl fun _ k0 => ?_; simp only [zO, zT, acs, reduceCtorEq, V, O, Z, ad, ab, aa, Mdl.av, Mdl.cs]; (repeat refine an ?_); (try refine .inl ?_); apply k0; clear k0; simp only [zP, O])
 refine ag ?_
 apply k3; clear k3; refine kp [0, 1, 2, 3, 4] ?_
 refine af fun _ k4 => ?_
 refine ah hP hN rfl ?_
 iterate 2 (refine ae rfl fun _ k0 => ?_; simp only [zO, zT, acs, reduceCtorEq, V, O, Z, ad, ab, aa, Mdl.av, Mdl.cs]; (repeat refine an ?_); (try refine .inl ?_); apply k0; clear k0; simp only [zP, O])
 refine ag ?_
 apply k4; clear k4; refine kp [0, 1, 2, 3, 4, 15] ?_
 refine cd (fun hc5 => ?_) (fun hc5 => ?_)
 ·(try simp only [zB, reduceCtorEq] at hc5)
  refine af fun _ k6 => ?_
  refine ah hP hN rfl ?_
  iterate 3 (refine ae rfl fun _ k0 => ?_; simp only [zO, zT, acs, reduceCtorEq, V, O, Z, ad, ab, aa, Mdl.av, Mdl.cs]; (repeat refine an ?_); (try refine .inl ?_); apply k0; clear k0; simp only [zP, O])
  refine ag ?_
  apply k6; clear k6; refine kp [0, 1, 2, 3, 4, 15] ?_
  refine ax ?_
  refine ⟨nr, _, rfl, ?_⟩; simp only [zF, zP, V, O, Mdl.av, Mdl.cs]
  refine VLE.of_eq ?_
  first | (rw [sj (by assumption)]; done) | (rw [np (by assumption), ‹mvE x = 0›]; done)
 (try simp only [zB, reduceCtorEq] at hc5)
 have hv0 : mvE x = 0 := by omega
 have hv := ml hv0; have hm := hv.mo; have hb := hb hv0
 have hol := hm.ol; have hi1 := hm.i1; have hi2 := hm.i2; have hn1 := hm.n1; have hn2 := hm.n2; have hs1 := hm.s1; have hs2 := hm.s2; have hil := hv.il; have hon := hv.ao.n1
 refine ay ?_
 apply k2; clear k2; refine kp [0, 1, 2, 3, 4, 15] ?_
 refine af fun _ k7 => ?_
 refine ah hP hN rfl ?_
 (refine ae rfl fun _ k0 => ?_; simp only [zO, zT, acs, reduceCtorEq, V, O, Z, ad, ab, aa, Mdl.av, Mdl.cs]; (repeat refine an ?_); (try refine .inl ?_); apply k0; clear k0; simp only [zP, O])
 refine ag ?_
 apply k7; clear k7; refine kp [0, 1, 2, 3, 4, 5, 15] ?_
 refine af fun _ k8 => ?_
 refine af fun _ k9 => ?_
 refine ah hP hN rfl ?_
 iterate 5 (refine ae rfl fun _ k0 => ?_; simp only [zO, zT, acs, reduceCtorEq, V, O, Z, ad, ab, aa, Mdl.av, Mdl.cs]; (repeat refine an ?_); (try refine .inl ?_); apply k0; clear k0; simp only [zP, O])
 refine ag ?_
 apply k9; clear k9; refine kp [0, 1, 2, 3, 4, 5, 15, 20, 21] ?_
 refine aE ?_
 refine jR 5 .str 9 (by decide) rfl ?_; simp only [ak, aw, am, ar, Nat.zero_add, O]
 refine bn (fun n10 s10 => ∃ (k : Nat) (u : Nat), (k ≤ x.m.nx.length) ∧ n10 = x.m.nx.length - k ∧ s10 = { env := [(1, .one (.ptr 0 0 0 0)), (2, .one (.str [])), (3, .one (.int .i64 0)), (5, .one (.row 1 u)), (20, .one (.int .i64 (x.m.nx.length : Int))), (21, .one (.int .i64 (k : Int)))], L := [.vars 29 [.str x.nm, .list .str x.ins, .list .str x.outs, .int .i64 x.m.inp, .int .i64 x.m.st, .list (.list (.int .i64)) x.m.nx, .list (.list (.int .i64)) x.m.ot], .row .str 9 u (qs k)] }) ?_ ?_
 ·exact ⟨_, _, aB [1, 2, 3, 5, 20, 21], 0, 0, Nat.zero_le _, rfl, rfl⟩
 rintro n10 s10 ⟨k, u, hk, rfl, rfl⟩
 refine af fun _ k11 => ?_
 refine ah hP hN rfl ?_
 (refine ae rfl fun _ k0 => ?_; simp only [zO, zT, acs, reduceCtorEq, V, O, Z, ad, ab, aa, Mdl.av, Mdl.cs]; (repeat refine an ?_); (try refine .inl ?_); apply k0; clear k0; simp only [zP, O])
 refine ag ?_
 apply k11; clear k11; refine kp [1, 2, 3, 5, 20, 21, 22] ?_
 refine af fun _ k12 => ?_
 refine cd (fun hc13 => ?_) (fun hc13 => ?_)
 ·(try simp only [zB, reduceCtorEq] at hc13)
  refine ay ?_
  apply k12; clear k12; refine kp [1, 2, 3, 5, 20, 21, 22] ?_
  refine af fun _ k14 => ?_
  refine aE ?_
  refine af fun _ k15 => ?_
  refine ah hP hN rfl ?_
  iterate 2 (refine ae rfl fun _ k0 => ?_; simp only [zO, zT, acs, reduceCtorEq, V, O, Z, ad, ab, aa, Mdl.av, Mdl.cs]; (repeat refine an ?_); (try refine .inl ?_); apply k0; clear k0; simp only [zP, O])
  refine ag ?_
  apply k15; clear k15; refine kp [1, 2, 3, 5, 6, 20, 21, 22] ?_
  refine ah hP hN rfl ?_
  iterate 2 (refine ae rfl fun _ k0 => ?_; simp only [zO, zT, acs, reduceCtorEq, V, O, Z, ad, ab, aa, Mdl.av, Mdl.cs, cW]; (repeat refine an ?_); (try refine .inl ?_); apply k0; clear k0; simp only [zP, O])
  refine ae rfl fun _ k0 => ?_
  refine aC (h := au (nT (k : Int) (by omega) (by omega))) rfl rfl (by first | exact rfl | (simp only [ev, zP, V, O]; exact rfl)) (by simp only [zV, acs, reduceCtorEq, V, O, Z, ad, ab, aa, Mdl.av, Mdl.cs, cW]) ?_
  apply k0; clear k0; simp only [zP, O]
  iterate 3 (refine ae rfl fun _ k0 => ?_; simp only [zO, zT, acs, reduceCtorEq, V, O, Z, ad, ab, aa, Mdl.av, Mdl.cs, cW]; (repeat refine an ?_); (try refine .inl ?_); apply k0; clear k0; simp only [zP, O])
  refine ag ?_
  apply k14; clear k14; refine kp [1, 2, 3, 5, 6, 20, 21, 22] ?_
  refine ah hP hN rfl ?_
  iterate 2 (refine ae rfl fun _ k0 => ?_; simp only [zO, zT, acs, reduceCtorEq, V, O, Z, ad, ab, aa, Mdl.av, Mdl.cs]; (repeat refine an ?_); (try refine .inl ?_); apply k0; clear k0; simp only [zP, O])
  refine ag ?_
  refine ⟨_, _, ?_, aB [1, 2, 3, 5, 20, 21], k + 1, u + 1, by omega, rfl, by rw [ve]; rfl⟩
  omega
 (try simp only [zB, reduceCtorEq] at hc13)
 refine bh ?_
 apply k8; clear k8; refine kp [1, 2, 3, 5, 20, 21, 22] ?_
 refine af fun _ k16 => ?_
 obtain rfl : k = x.m.nx.length := by omega
 refine lx 1 rfl ?_; simp only [aS, bM, zS, V, and_self, and_true, true_and, and_false, false_and, if_true, if_false, eq_self, reduceCtorEq, Nat.one_ne_zero, Nat.zero_ne_one]
 refine tY ?_; simp only [am, List.append_assoc, ar]
 have hj1 := ir hv ([105, 110, 112, 117, 116, 115, 32] ++ Lib.join x.ins [32]) (by simp [hdT])
 have hj2 := ir hv ([111, 117, 116, 112, 117, 116, 115, 32] ++ Lib.join x.outs [32]) (by simp [hdT])
 have hj3 := ir hv ([115, 116, 97, 116, 101, 115, 32] ++ Lib.join (qs x.m.nx.length) [32]) (by simp [hdT])
 have hj4 := ir hv ([115, 116, 97, 114, 116, 32] ++ qn x.m.st.toNat) (by simp [hdT])
 have hj5 := (dM hv.nm).2.2
 have hj6 := cW x.m.nx.length
 simp only [aq, ak, aw] at hj1 hj2 hj3 hj4
 refine bZ hP hN Tryz.mixed rfl ?_
 iterate 6 (refine ae rfl fun _ k0 => ?_; simp only [zO, zT, acs, reduceCtorEq, V, O, Z, ad, ab, aa, Mdl.av, Mdl.cs, aq, ak, aw]; (repeat refine an ?_); (try refine .inl ?_); apply k0; clear k0; simp only [zP, O])
 refine ae rfl fun _ k0 => ?_
 refine aC (h := au (gy x.ins [32] (by omega) (by omega))) rfl rfl (by first | exact rfl | (simp only [ev, zP, V, O]; exact rfl)) (by simp only [zV, acs, reduceCtorEq, V, O, Z, ad, ab, aa, Mdl.av, Mdl.cs, aq, ak, aw]) ?_
 apply k0; clear k0; simp only [zP, O]
 iterate 4 (refine ae rfl fun _ k0 => ?_; simp only [zO, zT, acs, reduceCtorEq, V, O, Z, ad, ab, aa, Mdl.av, Mdl.cs, aq, ak, aw]; (repeat refine an ?_); (try refine .inl ?_); apply k0; clear k0; simp only [zP, O])
 refine ae rfl fun _ k0 => ?_
 refine aC (h := au (gy x.outs [32] (by omega) (by omega))) rfl rfl (by first | exact rfl | (simp only [ev, zP, V, O]; exact rfl)) (by simp only [zV, acs, reduceCtorEq, V, O, Z, ad, ab, aa, Mdl.av, Mdl.cs, aq, ak, aw]) ?_
 apply k0; clear k0; simp only [zP, O]
 iterate 2 (refine ae rfl fun _ k0 => ?_; simp only [zO, zT, acs, reduceCtorEq, V, O, Z, ad, ab, aa, Mdl.av, Mdl.cs, aq, ak, aw]; (repeat refine an ?_); (try refine .inl ?_); apply k0; clear k0; simp only [zP, O])
 refine ae rfl fun _ k0 => ?_
 refine aC (h := au (gy (qs x.m.nx.length) [32] (by omega) (by omega))) rfl rfl (by first | exact rfl | (simp only [ev, zP, V, O]; exact rfl)) (by simp only [zV, acs, reduceCtorEq, V, O, Z, ad, ab, aa, Mdl.av, Mdl.cs, aq, ak, aw]) ?_
 apply k0; clear k0; simp only [zP, O]
 iterate 4 (refine ae rfl fun _ k0 => ?_; simp only [zO, zT, acs, reduceCtorEq, V, O, Z, ad, ab, aa, Mdl.av, Mdl.cs, aq, ak, aw]; (repeat refine an ?_); (try refine .inl ?_); apply k0; clear k0; simp only [zP, O])
 refine ae rfl fun _ k0 => ?_
 refine aC (h := au (nT x.m.st (by omega) (by omega))) rfl rfl (by first | exact rfl | (simp only [ev, zP, V, O]; exact rfl)) (by simp only [zV, acs, reduceCtorEq, V, O, Z, ad, ab, aa, Mdl.av, Mdl.cs, aq, ak, aw]) ?_
 apply k0; clear k0; simp only [zP, O]
 (refine ae rfl fun _ k0 => ?_; simp only [zO, zT, acs, reduceCtorEq, V, O, Z, ad, ab, aa, Mdl.av, Mdl.cs, aq, ak, aw]; (repeat refine an ?_); (try refine .inl ?_); apply k0; clear k0; simp only [zP, O])
 (refine ae rfl fun _ k0 => ?_; simp only [zO, zT, acs, reduceCtorEq, V, O, Z, ad, ab, aa, Mdl.av, Mdl.cs, aq, ak, aw]; (repeat refine an ?_); refine Or.inr (Or.inr (Or.inl ⟨2, by exact rfl, ?_⟩)); refine k0 _ ?_; clear k0; simp only [zP, O])
 (refine ae rfl fun _ k0 => ?_; simp only [zO, zT, acs, reduceCtorEq, V, O, Z, ad, ab, aa, Mdl.av, Mdl.cs, aq, ak, aw]; (repeat refine an ?_); (try refine .inl ?_); apply k0; clear k0; simp only [zP, O])
 refine ag ?_
 refine ⟨by kernel_rfl, ?_⟩
 apply k16; clear k16; refine kp [1, 2, 3, 5, 7, 20, 21, 22] ?_
 refine af fun _ k17 => ?_
 refine af fun _ k18 => ?_
 refine ah hP hN rfl ?_
 iterate 5 (refine ae rfl fun _ k0 => ?_; simp only [zO, zT, acs, reduceCtorEq, V, O, Z, ad, ab, aa, Mdl.av, Mdl.cs]; (repeat refine an ?_); (try refine .inl ?_); apply k0; clear k0; simp only [zP, O])
 refine ag ?_
 apply k18; clear k18; refine kp [1, 2, 3, 5, 7, 20, 21, 22, 54, 55, 56] ?_
 refine aE ?_
 refine bn (fun n19 s19 => ∃ (s : Nat) (v : Nat), (s ≤ x.m.nx.length) ∧ n19 = x.m.nx.length - s ∧ s19 = { env := [(1, .one (.ptr 0 0 0 0)), (2, .one (.str [])), (3, .one (.int .i64 0)), (5, .one (.list .str (qs x.m.nx.length))), (7, .one (.row 2 v)), (54, .one (.list (.list (.int .i64)) x.m.nx)), (55, .one (.int .i64 (x.m.nx.length : Int))), (56, .one (.int .i64 (s : Int)))], L := [.vars 29 [.str x.nm, .list .str x.ins, .list .str x.outs, .int .i64 x.m.inp, .int .i64 x.m.st, .list (.list (.int .i64)) x.m.nx, .list (.list (.int .i64)) x.m.ot], .dead u, .row .str 9 v (hdT x ++ et x s)] }) ?_ ?_
 ·exact ⟨_, _, aB [1, 2, 3, 5, 7, 54, 55, 56], 0, 1, Nat.zero_le _, rfl, by simp only [et, List.range_zero, bM, List.flatten_nil, List.append_nil]; rfl⟩
 rintro n19 s19 ⟨s, v, hs, rfl, rfl⟩
 refine af fun _ k20 => ?_
 refine ah hP hN rfl ?_
 (refine ae rfl fun _ k0 => ?_; simp only [zO, zT, acs, reduceCtorEq, V, O, Z, ad, ab, aa, Mdl.av, Mdl.cs]; (repeat refine an ?_); (try refine .inl ?_); apply k0; clear k0; simp only [zP, O])
 refine ag ?_
 apply k20; clear k20; refine kp [1, 2, 3, 5, 7, 54, 55, 56, 57] ?_
 refine af fun _ k21 => ?_
 refine cd (fun hc22 => ?_) (fun hc22 => ?_)
 ·(try simp only [zB, reduceCtorEq] at hc22)
  refine ay ?_
  apply k21; clear k21; refine kp [1, 2, 3, 5, 7, 54, 55, 56, 57] ?_
  refine af fun _ k23 => ?_
  refine aE ?_
  refine af fun _ k24 => ?_
  have hrl := hm.rl s (by omega)
  refine ah hP hN rfl ?_
  iterate 5 (refine ae rfl fun _ k0 => ?_; simp only [zO, zT, acs, reduceCtorEq, V, O, Z, ad, ab, aa, Mdl.av, Mdl.cs]; (repeat refine an ?_); (try refine .inl ?_); apply k0; clear k0; simp only [zP, O])
  refine ag ?_
  apply k24; clear k24; refine kp [1, 2, 3, 5, 7, 8, 9, 54, 55, 56, 57] ?_
  refine af fun _ k25 => ?_
  refine ah hP hN rfl ?_
  iterate 3 (refine ae rfl fun _ k0 => ?_; simp only [zO, zT, acs, reduceCtorEq, V, O, Z, ad, ab, aa, Mdl.av, Mdl.cs]; (repeat refine an ?_); (try refine .inl ?_); apply k0; clear k0; simp only [zP, O])
  refine ag ?_
  apply k25; clear k25; refine kp [1, 2, 3, 5, 7, 8, 9, 54, 55, 56, 57, 61, 62, 63] ?_
  refine aE ?_
  refine bn (fun n26 s26 => ∃ (j : Nat) (v : Nat), (j ≤ (x.m.nx.getD s []).length) ∧ n26 = (x.m.nx.getD s []).length - j ∧ s26 = { env := [(1, .one (.ptr 0 0 0 0)), (2, .one (.str [])), (3, .one (.int .i64 0)), (5, .one (.list .str (qs x.m.nx.length))), (7, .one (.row 2 v)), (8, .one (.int .i64 (s : Int))), (9, .one (.list (.int .i64) (x.m.nx.getD s []))), (54, .one (.list (.list (.int .i64)) x.m.nx)), (55, .one (.int .i64 (x.m.nx.length : Int))), (56, .one (.int .i64 (s : Int))), (57, .one (.bool (decide ((s : Int) < x.m.nx.length)))), (61, .one (.list (.int .i64) (x.m.nx.getD s []))), (62, .one (.int .i64 ((x.m.nx.getD s []).length : Int))), (63, .one (.int .i64 (j : Int)))], L := [.vars 29 [.str x.nm, .list .str x.ins, .list .str x.outs, .int .i64 x.m.inp, .int .i64 x.m.st, .list (.list (.int .i64)) x.m.nx, .list (.list (.int .i64)) x.m.ot], .dead u, .row .str 9 v (hdT x ++ et x s ++ fq x s j)] }) ?_ ?_
  ·exact ⟨_, _, aB [1, 2, 3, 5, 7, 8, 9, 54, 55, 56, 57, 61, 62, 63], 0, v, Nat.zero_le _, rfl, by simp only [fq, List.range_zero, bM, List.append_nil]; rfl⟩
  rintro n26 s26 ⟨j, v, hj, rfl, rfl⟩
  refine af fun _ k27 => ?_
  refine ah hP hN rfl ?_
  (refine ae rfl fun _ k0 => ?_; simp only [zO, zT, acs, reduceCtorEq, V, O, Z, ad, ab, aa, Mdl.av, Mdl.cs]; (repeat refine an ?_); (try refine .inl ?_); apply k0; clear k0; simp only [zP, O])
  refine ag ?_
  apply k27; clear k27; refine kp [1, 2, 3, 5, 7, 8, 9, 54, 55, 56, 57, 61, 62, 63, 64] ?_
  refine af fun _ k28 => ?_
  refine cd (fun hc29 => ?_) (fun hc29 => ?_)
  ·(try simp only [zB, reduceCtorEq] at hc29)
   refine ay ?_
   apply k28; clear k28; refine kp [1, 2, 3, 5, 7, 8, 9, 54, 55, 56, 57, 61, 62, 63, 64] ?_
   refine af fun _ k30 => ?_
   refine aE ?_
   refine af fun _ k31 => ?_
   refine ah hP hN rfl ?_
   iterate 5 (refine ae rfl fun _ k0 => ?_; simp only [zO, zT, acs, reduceCtorEq, V, O, Z, ad, ab, aa, Mdl.av, Mdl.cs]; (repeat refine an ?_); (try refine .inl ?_); apply k0; clear k0; simp only [zP, O])
   refine ag ?_
   apply k31; clear k31; refine kp [1, 2, 3, 5, 7, 8, 9, 10, 11, 54, 55, 56, 57, 61, 62, 63, 64] ?_
   have hrl := hm.rl s (by omega); have hql := hm.ql s (by omega)
   have hnr := hm.nr s j (by omega) (by omega); have hor := hm.or s j (by omega) (by omega); have hox := hv.ol s j (by omega) (by omega)
   have hq1 := dJ (n := x.m.nx.length) (i := s) (by omega)
   have hq2 := dJ (n := x.m.nx.length) (i := ((x.m.nx.getD s []).getD j 0).toNat) (by omega)
   have hl1 := iV (n := s) (by omega); have hl2 := iV (n := ((x.m.nx.getD s []).getD j 0).toNat) (by omega)
   have hl3 := iI hv.ai j; have hl4 := iI hv.ao ((x.m.ot.getD s []).getD j 0).toNat
   have hqn := cW x.m.nx.length
   have htl := jx hv (k := s) (by omega)
   have hrn := mM x s j; have hh5 : (hdT x).length = 5 := rfl
   refine bZ hP hN Tryz.mixed rfl ?_
   iterate 38 (refine ae rfl fun _ k0 => ?_; simp only [zO, zT, acs, reduceCtorEq, V, O, Z, ad, ab, aa, Mdl.av, Mdl.cs, hq1, hq2, aq, ak, aw, aN]; (repeat refine an ?_); (try refine .inl ?_); apply k0; clear k0; simp only [zP, O])
   refine ag ?_
   refine ⟨by kernel_rfl, ?_⟩
   apply k30; clear k30; refine kp [1, 2, 3, 5, 7, 8, 9, 10, 11, 54, 55, 56, 57, 61, 62, 63, 64] ?_
   refine ah hP hN rfl ?_
   iterate 2 (refine ae rfl fun _ k0 => ?_; simp only [zO, zT, acs, reduceCtorEq, V, O, Z, ad, ab, aa, Mdl.av, Mdl.cs]; (repeat refine an ?_); (try refine .inl ?_); apply k0; clear k0; simp only [zP, O])
   refine ag ?_
   refine ⟨_, _, ?_, aB [1, 2, 3, 5, 7, 8, 9, 54, 55, 56, 57, 61, 62, 63], j + 1, v + 1, by omega, rfl, ?_⟩
   · omega
   · rw [pZ, ← List.append_assoc]; rfl
  (try simp only [zB, reduceCtorEq] at hc29)
  refine bh ?_
  apply k23; clear k23; refine kp [1, 2, 3, 5, 7, 8, 9, 54, 55, 56, 57, 61, 62, 63, 64] ?_
  refine ah hP hN rfl ?_
  iterate 2 (refine ae rfl fun _ k0 => ?_; simp only [zO, zT, acs, reduceCtorEq, V, O, Z, ad, ab, aa, Mdl.av, Mdl.cs]; (repeat refine an ?_); (try refine .inl ?_); apply k0; clear k0; simp only [zP, O])
  refine ag ?_
  refine ⟨_, _, ?_, aB [1, 2, 3, 5, 7, 54, 55, 56], s + 1, v, by omega, rfl, ?_⟩
  · omega
  · rw [jm, ← List.append_assoc, show (x.m.nx.getD s []).length = j by omega]; rfl
 (try simp only [zB, reduceCtorEq] at hc22)
 refine bh ?_
 apply k17; clear k17; refine kp [1, 2, 3, 5, 7, 54, 55, 56, 57] ?_
 refine af fun _ k32 => ?_
 obtain rfl : s = x.m.nx.length := by omega
 refine lx 2 rfl ?_; simp only [aS, bM, zS, V, and_self, and_true, true_and, and_false, false_and, if_true, if_false, eq_self, reduceCtorEq, Nat.one_ne_zero, Nat.zero_ne_one]
 have hsl := sP hv; have htl := jx hv (Nat.le_refl _); have hh5 : (hdT x).length = 5 := rfl
 refine ah hP hN rfl ?_
 (refine ae rfl fun _ k0 => ?_; simp only [zO, zT, acs, reduceCtorEq, V, O, Z, ad, ab, aa, Mdl.av, Mdl.cs, aq, ak, aw]; (repeat refine an ?_); (try refine .inl ?_); apply k0; clear k0; simp only [zP, O])
 refine ae rfl fun _ k0 => ?_
 refine aC (h := au (gy (hdT x ++ et x x.m.nx.length) [10] (by rw [aq]; omega) (by omega))) rfl rfl (by first | exact rfl | (simp only [ev, zP, V, O]; exact rfl)) (by simp only [zV, acs, reduceCtorEq, V, O, Z, ad, ab, aa, Mdl.av, Mdl.cs, aq, ak, aw]) ?_
 apply k0; clear k0; simp only [zP, O]
 iterate 3 (refine ae rfl fun _ k0 => ?_; simp only [zO, zT, acs, reduceCtorEq, V, O, Z, ad, ab, aa, Mdl.av, Mdl.cs, aq, ak, aw]; (repeat refine an ?_); (try refine .inl ?_); apply k0; clear k0; simp only [zP, O])
 refine ag ?_
 apply k32; clear k32; refine kp [1, 2, 3, 5, 7, 54, 55, 56, 57] ?_
 refine ax ?_
 refine ⟨nr, _, rfl, ?_⟩; simp only [zF, zP, V, O, Mdl.av, Mdl.cs]
 refine VLE.of_eq ?_
 first | (rw [sj (by assumption)]; done) | (rw [np (by assumption), ‹mvE x = 0›]; done)
theorem xe : bH Tryz.prog 11 [.one (.str gtA)] (.tup [eU.av, .one (.int .i64 0), .one (.int .i64 0)]) := by
  have h := f9 gtA (by decide +kernel)
  rw [wx] at h
  exact h
theorem uB : bH Tryz.prog 7 [eU.av] (.tup [.one (.str gtA), .one (.int .i64 0)]) := by
  have h := uk eU (fun _ => by decide)
  rw [sA, pp] at h
  exact h
theorem x9 : bH Tryz.prog 11 [.one (.str gtx)] (.tup [(PM gtx).1.av, .one (.int .i64 9), .one (.int .i64 12)]) := by
  have h := f9 gtx (by decide +kernel)
  rw [congrArg Prod.fst se, congrArg Prod.snd se] at h
  exact h
theorem xc : bH Tryz.prog 11 [.one (.str gtB)] (.tup [(PM gtB).1.av, .one (.int .i64 9), .one (.int .i64 8)]) := by
  have h := f9 gtB (by decide +kernel)
  rw [congrArg Prod.fst sx, congrArg Prod.snd sx] at h
  exact h
theorem x7 : bH Tryz.prog 11 [.one (.str gtC)] (.tup [(PM gtC).1.av, .one (.int .i64 9), .one (.int .i64 7)]) := by
  have h := f9 gtC (by decide +kernel)
  rw [congrArg Prod.fst sm, congrArg Prod.snd sm] at h
  exact h
theorem wZ : bH Tryz.prog 11 [.one (.str [])] (.tup [(PM []).1.av, .one (.int .i64 1), .one (.int .i64 12)]) := by
  have h := f9 [] (by decide +kernel)
  rw [congrArg Prod.fst s7, congrArg Prod.snd s7] at h
  exact h
end Go.Proofs.YtmfkpljjhiglpaaGreatDoor
