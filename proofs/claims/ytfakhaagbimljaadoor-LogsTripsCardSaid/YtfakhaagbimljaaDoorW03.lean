/- Contracts of functions of this seat, each out of a walk through its code, and plain facts on what they compute. Conditions: those that each theorem names. -/
import Derived.Test.YtfakhaagbimljaaDoorW02
set_option linter.unusedSimpArgs false
set_option linter.unusedVariables false
set_option maxRecDepth 100000
namespace Go.Proofs.YtfakhaagbimljaaDoor
open Go Go.AV
open Nat renaming reduceEqDiff → J, reduceAdd → D, reduceLeDiff → M, reduceLT → U, reduceMul → O, reduceSub → S
open List renaming set_cons_zero → bG, set_cons_succ → bH, getD_cons_zero → ad, length_append → ag, map_cons → aR, cons_append → b0, map_nil → bf, length_cons → af, nil_append → aD, take_succ_cons → aj, length_nil → au, length_map → bP, length_replicate → bm, take_length → aE, mem_cons_self → aM, mem_cons_of_mem → aH
open Int renaming toNat_natCast → ae
set_option maxHeartbeats 1000000 in
theorem sR (n : Int) (X : List TRC) (v : Nat) (xs : List TRC) (t : TRC) (hl : xs.length ≤ 1000000) (hb : LB 100000 xs) (ht : t.1.length ≤ 100000) : cr Tryd.prog [.vars 47 [.int .i64 n, .list (.pair (.list (.int .i64)) (.pair (.list (.int .i64)) .unit)) X], .vars 47 [.int .i64 0, .nils], .row (.pair (.list (.int .i64)) (.pair (.list (.int .i64)) .unit)) 60 v xs, .vars 60 [.list (.int .i64) t.1, .list (.int .i64) t.2.1]] 92 [.one (.row 2 v), .one (.fn 93 [.pat (.pair (.list (.int .i64)) (.pair (.list (.int .i64)) .unit)) (t.1, (t.2.1, ()))])] { av := .one (.row 2 (dlv v xs t)), upd := [(2, .row (.pair (.list (.int .i64)) (.pair (.list (.int .i64)) .unit)) 60 (dlv v xs t) (dK xs t))], fp := [0, 1, 2, 3] } := by
 refine cK _ _ Tryd.func92 rfl (by kernel_rfl) (Nat.le_of_ble_eq_true rfl) (by intro k hk; simp only [af, au, Nat.zero_add, D] at hk; simp only [List.mem_cons, List.not_mem_nil, or_false]; omega) (fun C hP hN hB => ?_)
 replace hB : C.bL.length = 4 := by rw [hB]; rfl
 replace hN : C.N = 42 := hN
 simp only [aL, D]
 refine Z fun _ k1 => ?_
 refine a9 hP hN rfl ?_
 (refine V rfl fun _ k0 => ?_; simp only [zO, zT, acs, reduceCtorEq, J, D, M, U, O, S]; (repeat refine an ?_); (try refine .inl ?_); apply k0; clear k0; simp only [zP, D])
 refine aa ?_
 apply k1; clear k1; refine kp [0, 1, 4] ?_
 refine Z fun _ k2 => ?_
 refine a9 hP hN rfl ?_
 iterate 2 (refine V rfl fun _ k0 => ?_; simp only [zO, zT, acs, reduceCtorEq, J, D, M, U, O, S]; (repeat refine an ?_); (try refine .inl ?_); apply k0; clear k0; simp only [zP, D])
 refine V rfl fun _ k0 => ?_
 refine ar (h := jp (args := [.one (.row 2 v), .one (.fn 93 [.pat (.pair (.list (.int .i64)) (.pair (.list (.int .i64)) .unit)) (t.1, (t.2.1, ()))])]) (by simp [fzV, fz1, fzC, gR]) rfl (tk xs 93 [.pat (.pair (.list (.int .i64)) (.pair (.list (.int .i64)) .unit)) (t.1, (t.2.1, ()))] (fun u => pfB t.1 u.1) rfl (fun k x1 x2 hk e => pJ t.1 t.2.1 (x1, (x2, ())) ht (hb.get hk e).1)) rfl) rfl rfl (by first | exact rfl | (simp only [ev, zP, J, D]; exact rfl)) (by simp only [zV, acs, reduceCtorEq, J, D, M, U, O, S]) ?_
 apply k0; clear k0; simp only [zP, D]
 (refine V rfl fun _ k0 => ?_; simp only [zO, zT, acs, reduceCtorEq, J, D, M, U, O, S]; (repeat refine an ?_); (try refine .inl ?_); apply k0; clear k0; simp only [zP, D])
 refine aa ?_
 apply k2; clear k2; refine kp [0, 1, 4, 5] ?_
 refine Z fun _ k3 => ?_
 refine Z fun _ k4 => ?_
 refine a9 hP hN rfl ?_
 iterate 2 (refine V rfl fun _ k0 => ?_; simp only [zO, zT, acs, reduceCtorEq, J, D, M, U, O, S]; (repeat refine an ?_); (try refine .inl ?_); apply k0; clear k0; simp only [zP, D])
 refine aa ?_
 apply k4; clear k4; refine kp [0, 1, 4, 5, 12] ?_
 refine cd (fun hc5 => ?_) (fun hc5 => ?_)
 ·(try simp only [zB, reduceCtorEq] at hc5)
  have hno : dJ (fun u => pfB t.1 u.1) xs = -1 := hc5
  obtain ⟨e1, e2⟩ := tZ (v := v) hno
  refine Z fun _ k6 => ?_
  refine a9 hP hN rfl ?_
  iterate 2 (refine V rfl fun _ k0 => ?_; simp only [zO, zT, acs, reduceCtorEq, J, D, M, U, O, S]; (repeat refine an ?_); (try refine .inl ?_); apply k0; clear k0; simp only [zP, D])
  refine aa ?_
  apply k6; clear k6; refine kp [0, 1, 4, 5, 12] ?_
  refine ak ?_
  refine ⟨by first | exact .inl rfl | exact .inr rfl, _, rfl, ?_⟩; simp only [zP, J, D]
  first
  | (rw [e1, e2]; first | exact ⟨rfl, rfl⟩ | rfl)
  | (rw [e1, show dK xs t = R.take i from hKe.symm, hil]; first | exact ⟨rfl, rfl⟩ | rfl)
 (try simp only [zB, reduceCtorEq] at hc5)
 have hyes : ¬ dJ (fun u => pfB t.1 u.1) xs = -1 := hc5
 have e1 := tc (v := v) hyes
 obtain ⟨i0, hi0⟩ : ∃ i0 : Nat, dJ (fun u => pfB t.1 u.1) xs = (i0 : Int) := by
   rcases gZ (fun u => pfB t.1 u.1) xs with ⟨k, e, _⟩ | ⟨e, _⟩
   · exact ⟨k, e⟩
   · exact absurd e hyes
 have k0 := KEP.start hi0
 have hi0l := k0.jl
 rw [hi0]
 refine am ?_
 apply k3; clear k3; refine kp [0, 1, 4, 5, 12] ?_
 refine Z fun _ k7 => ?_
 refine Z fun _ k8 => ?_
 refine a9 hP hN rfl ?_
 iterate 3 (refine V rfl fun _ k0 => ?_; simp only [zO, zT, acs, reduceCtorEq, J, D, M, U, O, S]; (repeat refine an ?_); (try refine .inl ?_); apply k0; clear k0; simp only [zP, D])
 refine aa ?_
 apply k8; clear k8; refine kp [0, 1, 4, 5, 6, 12] ?_
 refine az ?_
 refine aX (fun n9 s9 => ∃ (i j : Nat) (R : List TRC), (KEP (fun u => pfB t.1 u.1) xs R i j) ∧ n9 = xs.length - j ∧ s9 = { env := [(0, .one (.row 2 v)), (1, .one (.fn 93 [.pat (.pair (.list (.int .i64)) (.pair (.list (.int .i64)) .unit)) (t.1, (t.2.1, ()))])), (4, .one .nils), (5, .one (.int .i64 (i : Int))), (6, .one (.int .i64 (j : Int)))], L := [.vars 47 [.int .i64 n, .list (.pair (.list (.int .i64)) (.pair (.list (.int .i64)) .unit)) X], .vars 47 [.int .i64 0, .nils], .row (.pair (.list (.int .i64)) (.pair (.list (.int .i64)) .unit)) 60 v R, .vars 60 [.list (.int .i64) t.1, .list (.int .i64) t.2.1]] }) ?_ ?_
 ·exact ⟨_, _, aw [0, 1, 4, 5, 6], i0, i0 + 1, xs, k0, rfl, rfl⟩
 rintro n9 s9 ⟨i, j, R, hK, rfl, rfl⟩
 refine Z fun _ k10 => ?_
 refine Z fun _ k11 => ?_
 refine a9 hP hN rfl ?_
 iterate 4 (refine V rfl fun _ k0 => ?_; simp only [zO, zT, acs, reduceCtorEq, J, D, M, U, O, S]; (repeat refine an ?_); (try refine .inl ?_); apply k0; clear k0; simp only [zP, D])
 refine aa ?_
 apply k11; clear k11; refine kp [0, 1, 4, 5, 6, 19] ?_
 refine cd (fun hc12 => ?_) (fun hc12 => ?_)
 ·(try simp only [zB, reduceCtorEq] at hc12)
  refine am ?_
  apply k10; clear k10; refine kp [0, 1, 4, 5, 6, 19] ?_
  refine Z fun _ k13 => ?_
  refine az ?_
  refine Z fun _ k14 => ?_
  have hij := hK.ij; have hRl := hK.l
  obtain ⟨x1, x2, hgx⟩ : ∃ x1 x2, ∀ d, R.getD j d = (x1, (x2, ())) := ⟨_, _, cq (by omega)⟩
  have hxe : xs.getD j aP = (x1, (x2, ())) := (hK.at_ (by omega)).symm.trans (hgx _)
  refine a9 hP hN rfl ?_
  iterate 6 (refine V rfl fun _ k0 => ?_; simp only [zO, zT, acs, reduceCtorEq, J, D, M, U, O, S, gt, ae, hgx]; (repeat refine an ?_); (try refine .inl ?_); apply k0; clear k0; simp only [zP, D])
  refine aa ?_
  apply k14; clear k14; refine kp [0, 1, 4, 5, 6, 7, 19] ?_
  refine Z fun _ k15 => ?_
  refine a9 hP hN rfl ?_
  iterate 2 (refine V rfl fun _ k0 => ?_; simp only [zO, zT, acs, reduceCtorEq, J, D, M, U, O, S, hgx]; (repeat refine an ?_); (try refine .inl ?_); apply k0; clear k0; simp only [zP, D])
  refine V rfl fun _ k0 => ?_
  refine ar (h := ah (pJ t.1 t.2.1 (x1, (x2, ())) ht (hb.get (k := j) (by omega) hxe).1)) rfl rfl (by first | exact rfl | (simp only [ev, zP, J, D]; exact rfl)) (by simp only [zV, acs, reduceCtorEq, J, D, M, U, O, S, hgx]) ?_
  apply k0; clear k0; simp only [zP, D]
  (refine V rfl fun _ k0 => ?_; simp only [zO, zT, acs, reduceCtorEq, J, D, M, U, O, S, hgx]; (repeat refine an ?_); (try refine .inl ?_); apply k0; clear k0; simp only [zP, D])
  refine aa ?_
  apply k15; clear k15; refine kp [0, 1, 4, 5, 6, 7, 19, 29] ?_
  refine cd (fun hc16 => ?_) (fun hc16 => ?_)
  ·(try simp only [zB, reduceCtorEq] at hc16)
   have hpf : pfB t.1 x1 = false := by simpa using hc16
   have k2 := hK.yes (by omega) (by rw [hxe]; exact hpf)
   refine Z fun _ k17 => ?_
   refine a9 hP hN rfl ?_
   iterate 5 (refine V rfl fun _ k0 => ?_; simp only [zO, zT, acs, reduceCtorEq, J, D, M, U, O, S, gt, ae, hgx]; (repeat refine an ?_); (try refine .inl ?_); apply k0; clear k0; simp only [zP, D])
   refine aa ?_
   apply k17; clear k17; refine kp [0, 1, 4, 5, 6, 7, 19, 29] ?_
   refine a9 hP hN rfl ?_
   iterate 3 (refine V rfl fun _ k0 => ?_; simp only [zO, zT, acs, reduceCtorEq, J, D, M, U, O, S]; (repeat refine an ?_); (try refine .inl ?_); apply k0; clear k0; simp only [zP, D])
   refine aa ?_
   apply k13; clear k13; refine kp [0, 1, 4, 5, 6, 7, 19, 29] ?_
   refine kp [0, 1, 4, 5, 6] ?_
   refine aq (L1 := [_, _, _, _]) rfl (by rw [hB]; exact Nat.le_refl _) rfl rfl ?_
   refine a9 hP hN rfl ?_
   iterate 3 (refine V rfl fun _ k0 => ?_; simp only [zO, zT, acs, reduceCtorEq, J, D, M, U, O, S]; (repeat refine an ?_); (try refine .inl ?_); apply k0; clear k0; simp only [zP, D])
   refine aa ?_
   first
   | (refine ⟨_, _, ?_, aw [0, 1, 4, 5, 6], i + 1, j + 1, R.set i (xs.getD j aP), k2, rfl, by rw [hxe]; rfl⟩
      omega)
   | (refine ⟨_, _, ?_, aw [0, 1, 4, 5, 6], i, j + 1, R, k2, rfl, rfl⟩
      omega)
  (try simp only [zB, reduceCtorEq] at hc16)
  have hpt : pfB t.1 x1 = true := by simpa using hc16
  have k2 := hK.no (by omega) (by rw [hxe]; exact hpt)
  refine am ?_
  apply k13; clear k13; refine kp [0, 1, 4, 5, 6, 7, 19, 29] ?_
  refine kp [0, 1, 4, 5, 6] ?_
  refine aq (L1 := [_, _, _, _]) rfl (by rw [hB]; exact Nat.le_refl _) rfl rfl ?_
  refine a9 hP hN rfl ?_
  iterate 3 (refine V rfl fun _ k0 => ?_; simp only [zO, zT, acs, reduceCtorEq, J, D, M, U, O, S]; (repeat refine an ?_); (try refine .inl ?_); apply k0; clear k0; simp only [zP, D])
  refine aa ?_
  first
  | (refine ⟨_, _, ?_, aw [0, 1, 4, 5, 6], i + 1, j + 1, R.set i (xs.getD j aP), k2, rfl, by rw [hxe]; rfl⟩
     omega)
  | (refine ⟨_, _, ?_, aw [0, 1, 4, 5, 6], i, j + 1, R, k2, rfl, rfl⟩
     omega)
 (try simp only [zB, reduceCtorEq] at hc12)
 refine aV ?_
 apply k7; clear k7; refine kp [0, 1, 4, 5, 6, 19] ?_
 refine Z fun _ k18 => ?_
 have hRl := hK.l; have hij := hK.ij; have hjl := hK.jl
 have hjx : j = xs.length := by omega
 have hKe := hK.end_ hjx
 refine s7 hP hN rfl rfl rfl rfl rfl rfl rfl rfl rfl rfl rfl rfl (by decide) rfl rfl rfl (by omega) ⟨rfl, rfl, rfl⟩ ?_
 simp only [zP, D]
 apply k18; clear k18; refine kp [0, 1, 4, 5, 6, 19] ?_
 refine Z fun _ k19 => ?_
 have hil : (R.take i ++ List.replicate (R.length - i) (([], ([], ())) : TRC)).take i = R.take i := by rw [List.take_append_of_le_length (by rw [List.length_take]; omega), List.take_take, Nat.min_self]
 have hi2 : i ≤ (R.take i ++ List.replicate (R.length - i) (([], ([], ())) : TRC)).length := by simp; omega
 refine a9 hP hN rfl ?_
 iterate 2 (refine V rfl fun _ k0 => ?_; simp only [zO, zT, acs, reduceCtorEq, J, D, M, U, O, S, ae]; (repeat refine an ?_); (try refine .inl ?_); apply k0; clear k0; simp only [zP, D])
 (refine V rfl fun _ k0 => ?_; simp only [zE, op1, ev, lkp, c9, be, bU, bnd, Ty.size, reduceCtorEq, J, D, M, U, O, S, Tryd.el27, Tryd.td27, Tryd.td3, ae]; (repeat refine an ?_); (try refine .inl ?_); apply k0; clear k0; simp only [zP, D])
 (refine V rfl fun _ k0 => ?_; simp only [zO, zT, acs, reduceCtorEq, J, D, M, U, O, S, ae]; (repeat refine an ?_); (try refine .inl ?_); apply k0; clear k0; simp only [zP, D])
 refine aa ?_
 apply k19; clear k19; refine kp [0, 1, 4, 5, 6, 19] ?_
 refine ak ?_
 refine ⟨by first | exact .inl rfl | exact .inr rfl, _, rfl, ?_⟩; simp only [zP, J, D]
 first
 | (rw [e1, e2]; first | exact ⟨rfl, rfl⟩ | rfl)
 | (rw [e1, show dK xs t = R.take i from hKe.symm, hil]; first | exact ⟨rfl, rfl⟩ | rfl)
theorem kh (a b : TRC) (ha : a.1.length ≤ 100000) (hb : b.1.length ≤ 100000) (ha2 : a.2.1.length ≤ 100000) (hb2 : b.2.1.length ≤ 100000) : aW Tryd.prog 90 [.agg [.list (.int .i64) a.1, .list (.int .i64) a.2.1], .agg [.list (.int .i64) b.1, .list (.int .i64) b.2.1]] (.one (.int .i64 (dfO a b))) := by
 refine aA Tryd.func90 rfl (by kernel_rfl) (Nat.le_of_ble_eq_true rfl) rfl fun C hP hN hB => ?_
 replace hN : C.N = 32 := hN
 simp only [aL, D]
 obtain ⟨n, hn⟩ : ∃ n, n = dfN a b := ⟨_, rfl⟩
 have hnm : min (min (cmn a.1 b.1 : Int) (a.2.1.length : Int)) (b.2.1.length : Int) = (n : Int) := by unfold dfN at hn; omega
 refine Z fun _ k1 => ?_
 refine a9 hP hN rfl ?_
 iterate 3 (refine V rfl fun _ k0 => ?_; simp only [zO, zT, acs, reduceCtorEq, J, D, M, U, O, S]; (repeat refine an ?_); (try refine .inl ?_); apply k0; clear k0; simp only [zP, D])
 refine aa ?_
 apply k1; clear k1; refine kp [0, 1, 2, 3, 4] ?_
 refine Z fun _ k2 => ?_
 refine bV hP hN Tryd.mixed rfl ?_
 iterate 4 (refine V rfl fun _ k0 => ?_; simp only [zO, zT, acs, reduceCtorEq, J, D, M, U, O, S, hnm]; (repeat refine an ?_); (try refine .inl ?_); apply k0; clear k0; simp only [zP, D])
 refine V rfl fun _ k0 => ?_
 refine ar (h := ah (oZ a.1 b.1 (by omega) (by omega))) rfl rfl (by first | exact rfl | (simp only [ev, zP, J, D]; exact rfl)) (by simp only [zV, acs, reduceCtorEq, J, D, M, U, O, S, hnm]) ?_
 apply k0; clear k0; simp only [zP, D]
 iterate 6 (refine V rfl fun _ k0 => ?_; simp only [zO, zT, acs, reduceCtorEq, J, D, M, U, O, S, hnm]; (repeat refine an ?_); (try refine .inl ?_); apply k0; clear k0; simp only [zP, D])
 refine nI (fun C9 hC9 => .inl ⟨rfl, oT rfl rfl rfl rfl⟩) ?_; simp only [zP, D]
 (refine V rfl fun _ k0 => ?_; simp only [zO, zT, acs, reduceCtorEq, J, D, M, U, O, S, hnm]; (repeat refine an ?_); (try refine .inl ?_); apply k0; clear k0; simp only [zP, D])
 refine aa ?_
 refine ⟨by kernel_rfl, ?_⟩
 apply k2; clear k2; refine kp [0, 1, 2, 3, 4, 5] ?_
 refine Z fun _ k3 => ?_
 refine Z fun _ k4 => ?_
 refine bV hP hN Tryd.mixed rfl ?_
 iterate 3 (refine V rfl fun _ k0 => ?_; simp only [zO, zT, acs, reduceCtorEq, J, D, M, U, O, S, hnm, ae, Int.toNat_zero, List.drop_zero]; (repeat refine an ?_); (try refine .inl ?_); apply k0; clear k0; simp only [zP, D])
 (refine V rfl fun _ k0 => ?_; simp only [zE, op1, ev, lkp, c9, be, cf, dW, Nat.mul_one, bz, cF, acs, Ty.dflt, zG, bT, bU, bnd, Ty.size, reduceCtorEq, J, D, M, U, O, S, Tryd.el43, Tryd.st60, Tryd.td1, Tryd.td3, Tryd.td43, Tryd.td60, hnm, ae, Int.toNat_zero, List.drop_zero]; (repeat refine an ?_); (try refine .inl ?_); apply k0; clear k0; simp only [zP, D])
 iterate 3 (refine V rfl fun _ k0 => ?_; simp only [zO, zT, acs, reduceCtorEq, J, D, M, U, O, S, hnm, ae, Int.toNat_zero, List.drop_zero]; (repeat refine an ?_); (try refine .inl ?_); apply k0; clear k0; simp only [zP, D])
 (refine V rfl fun _ k0 => ?_; simp only [zE, op1, ev, lkp, c9, be, cf, dW, Nat.mul_one, bz, cF, acs, Ty.dflt, zG, bT, bU, bnd, Ty.size, reduceCtorEq, J, D, M, U, O, S, Tryd.el43, Tryd.st60, Tryd.td1, Tryd.td3, Tryd.td43, Tryd.td60, hnm, ae, Int.toNat_zero, List.drop_zero]; (repeat refine an ?_); (try refine .inl ?_); apply k0; clear k0; simp only [zP, D])
 refine V rfl fun _ k0 => ?_
 refine ar (h := ah (oZ (a.2.1.take n) (b.2.1.take n) (by rw [List.length_take]; omega) (by rw [List.length_take]; omega))) rfl rfl (by first | exact rfl | (simp only [ev, zP, J, D]; exact rfl)) (by simp only [zV, acs, reduceCtorEq, J, D, M, U, O, S, hnm, ae, Int.toNat_zero, List.drop_zero]) ?_
 apply k0; clear k0; simp only [zP, D]
 (refine V rfl fun _ k0 => ?_; simp only [zO, zT, acs, reduceCtorEq, J, D, M, U, O, S, hnm, ae, Int.toNat_zero, List.drop_zero]; (repeat refine an ?_); (try refine .inl ?_); apply k0; clear k0; simp only [zP, D])
 refine aa ?_
 refine ⟨by kernel_rfl, ?_⟩
 apply k4; clear k4; refine kp [0, 1, 2, 3, 4, 5, 6] ?_
 refine Z fun _ k5 => ?_
 refine a9 hP hN rfl ?_
 iterate 3 (refine V rfl fun _ k0 => ?_; simp only [zO, zT, acs, reduceCtorEq, J, D, M, U, O, S]; (repeat refine an ?_); (try refine .inl ?_); apply k0; clear k0; simp only [zP, D])
 refine aa ?_
 apply k5; clear k5; refine kp [0, 1, 2, 3, 4, 5, 6, 30] ?_
 refine cd (fun hc6 => ?_) (fun hc6 => ?_)
 ·(try simp only [zB, reduceCtorEq] at hc6)
  have hlt := hc6
  refine Z fun _ k7 => ?_
  refine a9 hP hN rfl ?_
  iterate 2 (refine V rfl fun _ k0 => ?_; simp only [zO, zT, acs, reduceCtorEq, J, D, M, U, O, S]; (repeat refine an ?_); (try refine .inl ?_); apply k0; clear k0; simp only [zP, D])
  refine aa ?_
  apply k7; clear k7; refine kp [0, 1, 2, 3, 4, 5, 6, 30] ?_
  refine ak ?_
  refine ⟨nr, _, rfl, ?_⟩; simp only [zF, zP, J, D]
  refine VLE.of_eq ?_
  refine congrArg (fun n => AV.one (AC.int IntKind.i64 n)) ?_
  unfold dfO
  rw [← hn]
  first
  | (rw [if_pos (by omega)]; done)
  | (rw [if_neg (by omega)]; done)
 (try simp only [zB, reduceCtorEq] at hc6)
 have hge := hc6
 refine am ?_
 apply k3; clear k3; refine kp [0, 1, 2, 3, 4, 5, 6, 30] ?_
 refine Z fun _ k8 => ?_
 refine a9 hP hN rfl ?_
 (refine V rfl fun _ k0 => ?_; simp only [zO, zT, acs, reduceCtorEq, J, D, M, U, O, S]; (repeat refine an ?_); (try refine .inl ?_); apply k0; clear k0; simp only [zP, D])
 refine aa ?_
 apply k8; clear k8; refine kp [0, 1, 2, 3, 4, 5, 6, 30] ?_
 refine ak ?_
 refine ⟨nr, _, rfl, ?_⟩; simp only [zF, zP, J, D]
 refine VLE.of_eq ?_
 refine congrArg (fun n => AV.one (AC.int IntKind.i64 n)) ?_
 unfold dfO
 rw [← hn]
 first
 | (rw [if_pos (by omega)]; done)
 | (rw [if_neg (by omega)]; done)
set_option maxHeartbeats 2000000 in
theorem tF (n : Int) (X : List TRC) (v : Nat) (xs : List TRC) (t : TRC) (hs : SRT xs) (hl : xs.length ≤ 9000) (hb : LB 100000 xs) (ht : t.1.length ≤ 100000 ∧ t.2.1.length ≤ 100000) (hn : gl xs t = true) : cr Tryd.prog [.vars 47 [.int .i64 n, .list (.pair (.list (.int .i64)) (.pair (.list (.int .i64)) .unit)) X], .vars 47 [.int .i64 0, .nils], .row (.pair (.list (.int .i64)) (.pair (.list (.int .i64)) .unit)) 60 v xs, .vars 60 [.list (.int .i64) t.1, .list (.int .i64) t.2.1]] 80 [.one (.row 2 v), .agg [.list (.int .i64) t.1, .list (.int .i64) t.2.1]] { av := .tup [.one .nils, .one (.int .i64 13)], fp := [0, 1, 2, 3] } := by
 refine cK _ _ Tryd.func80 rfl (by kernel_rfl) (Nat.le_of_ble_eq_true rfl) (by intro k hk; simp only [af, au, Nat.zero_add, D] at hk; simp only [List.mem_cons, List.not_mem_nil, or_false]; omega) (fun C hP hN hB => ?_)
 replace hB : C.bL.length = 4 := by rw [hB]; rfl
 replace hN : C.N = 56 := hN
 simp only [aL, D]
 refine Z fun _ k1 => ?_
 refine a9 hP hN rfl ?_
 iterate 3 (refine V rfl fun _ k0 => ?_; simp only [zO, zT, acs, reduceCtorEq, J, D, M, U, O, S]; (repeat refine an ?_); (try refine .inl ?_); apply k0; clear k0; simp only [zP, D])
 refine aa ?_
 apply k1; clear k1; refine kp [0, 1, 3, 4, 5] ?_
 refine Z fun _ k2 => ?_
 refine gQ 4 (.pair (.list (.int .i64)) (.pair (.list (.int .i64)) .unit)) rfl rfl ?_; simp only [aR, bf, shV, if_true, zS, if_false, eq_self, J, reduceCtorEq, Nat.one_ne_zero, Nat.zero_ne_one]
 refine aq (L1 := [_, _, _, _]) rfl (by rw [hB]; exact Nat.le_refl _) rfl rfl ?_
 refine a9 hP hN rfl ?_
 (refine V rfl fun _ k0 => ?_; simp only [zO, zT, acs, reduceCtorEq, J, D, M, U, O, S]; (repeat refine an ?_); (try refine .inl ?_); apply k0; clear k0; simp only [zP, D])
 refine aa ?_
 apply k2; clear k2; refine kp [0, 1, 3, 4, 5, 6] ?_
 refine Z fun _ k3 => ?_
 refine Z fun _ k4 => ?_
 refine a9 hP hN rfl ?_
 iterate 3 (refine V rfl fun _ k0 => ?_; simp only [zO, zT, acs, reduceCtorEq, J, D, M, U, O, S]; (repeat refine an ?_); (try refine .inl ?_); apply k0; clear k0; simp only [zP, D])
 refine aa ?_
 apply k4; clear k4; refine kp [0, 1, 3, 4, 5, 6, 11, 12, 13] ?_
 refine az ?_
 refine aX (fun n5 s5 => ∃ (k : Nat), (k ≤ xs.length) ∧ (∀ q : Nat, q < k → ¬ 0 ≤ dfO (xs.getD q aP) t) ∧ n5 = xs.length - k ∧ s5 = { env := [(0, .one (.row 2 v)), (3, .one (.pat (.pair (.list (.int .i64)) (.pair (.list (.int .i64)) .unit)) (t.1, (t.2.1, ())) 0)), (4, .one .nils), (5, .one (.int .i64 0)), (6, .one (.bool (gU xs t k))), (11, .one (.row 2 v)), (12, .one (.int .i64 (xs.length : Int))), (13, .one (.int .i64 (k : Int)))], L := [.vars 47 [.int .i64 n, .list (.pair (.list (.int .i64)) (.pair (.list (.int .i64)) .unit)) X], .vars 47 [.int .i64 0, .nils], .row (.pair (.list (.int .i64)) (.pair (.list (.int .i64)) .unit)) 60 v xs, .vars 60 [.list (.int .i64) t.1, .list (.int .i64) t.2.1]] }) ?_ ?_
 ·exact ⟨_, _, aw [0, 3, 4, 5, 6, 11, 12, 13], 0, Nat.zero_le _, fun q hq => by omega, rfl, rfl⟩
 rintro n5 s5 ⟨k, hk, hq, rfl, rfl⟩
 refine Z fun _ k6 => ?_
 refine a9 hP hN rfl ?_
 (refine V rfl fun _ k0 => ?_; simp only [zO, zT, acs, reduceCtorEq, J, D, M, U, O, S]; (repeat refine an ?_); (try refine .inl ?_); apply k0; clear k0; simp only [zP, D])
 refine aa ?_
 apply k6; clear k6; refine kp [0, 3, 4, 5, 6, 11, 12, 13, 14] ?_
 refine Z fun _ k7 => ?_
 refine cd (fun hc8 => ?_) (fun hc8 => ?_)
 ·(try simp only [zB, reduceCtorEq] at hc8)
  refine am ?_
  apply k7; clear k7; refine kp [0, 3, 4, 5, 6, 11, 12, 13, 14] ?_
  refine Z fun _ k9 => ?_
  refine az ?_
  refine Z fun _ k10 => ?_
  obtain ⟨x1, x2, hgx⟩ : ∃ x1 x2, ∀ d, xs.getD k d = (x1, (x2, ())) := ⟨_, _, cq (by omega)⟩
  have hbx := hb.get (k := k) (by omega) (hgx _)
  refine a9 hP hN rfl ?_
  iterate 4 (refine V rfl fun _ k0 => ?_; simp only [zO, zT, acs, reduceCtorEq, J, D, M, U, O, S, gt, ae, hgx]; (repeat refine an ?_); (try refine .inl ?_); apply k0; clear k0; simp only [zP, D])
  refine aa ?_
  apply k10; clear k10; refine kp [0, 3, 4, 5, 6, 8, 11, 12, 13, 14] ?_
  refine Z fun _ k11 => ?_
  refine Z fun _ k12 => ?_
  refine a9 hP hN rfl ?_
  iterate 2 (refine V rfl fun _ k0 => ?_; simp only [zO, zT, acs, reduceCtorEq, J, D, M, U, O, S]; (repeat refine an ?_); (try refine .inl ?_); apply k0; clear k0; simp only [zP, D])
  refine V rfl fun _ k0 => ?_
  refine ar (h := ah (kh (x1, (x2, ())) (t.1, (t.2.1, ())) hbx.1 ht.1 hbx.2 ht.2)) rfl rfl (by first | exact rfl | (simp only [ev, zP, J, D]; exact rfl)) (by simp only [zV, acs, reduceCtorEq, J, D, M, U, O, S]) ?_
  apply k0; clear k0; simp only [zP, D]
  (refine V rfl fun _ k0 => ?_; simp only [zO, zT, acs, reduceCtorEq, J, D, M, U, O, S]; (repeat refine an ?_); (try refine .inl ?_); apply k0; clear k0; simp only [zP, D])
  refine aa ?_
  apply k12; clear k12; refine kp [0, 3, 4, 5, 6, 8, 11, 12, 13, 14, 20] ?_
  refine cd (fun hc13 => ?_) (fun hc13 => ?_)
  ·(try simp only [zB, reduceCtorEq] at hc13)
   refine Z fun _ k14 => ?_
   refine a9 hP hN rfl ?_
   iterate 2 (refine V rfl fun _ k0 => ?_; simp only [zO, zT, acs, reduceCtorEq, J, D, M, U, O, S]; (repeat refine an ?_); (try refine .inl ?_); apply k0; clear k0; simp only [zP, D])
   refine aa ?_
   apply k14; clear k14; refine kp [0, 3, 4, 5, 6, 8, 11, 12, 13, 14, 20] ?_
   refine kp [4, 5] ?_
   refine aq (L1 := [_, _, _, _]) rfl (by rw [hB]; exact Nat.le_refl _) rfl rfl ?_
   refine ak ?_
   refine ⟨by first | exact .inl rfl | exact .inr rfl, _, rfl, ?_⟩; simp only [zP, J, D]
   all_goals rfl
  (try simp only [zB, reduceCtorEq] at hc13)
  have hnd := hc13
  refine am ?_
  apply k11; clear k11; refine kp [0, 3, 4, 5, 6, 8, 11, 12, 13, 14, 20] ?_
  refine a9 hP hN rfl ?_
  iterate 2 (refine V rfl fun _ k0 => ?_; simp only [zO, zT, acs, reduceCtorEq, J, D, M, U, O, S]; (repeat refine an ?_); (try refine .inl ?_); apply k0; clear k0; simp only [zP, D])
  refine' aC (want := false) 5 rfl (m := 22) (by simp only [zP, J, D]; exact rfl) (by kernel_rfl) rfl rfl rfl rfl rfl (fun hg15 => ?a15) ?b15 ?c15
  case a15 =>
   have hq15 := hg15; (try simp only [zB, reduceCtorEq] at hg15); simp only [zE]
   iterate 4 (refine aO rfl fun _ k0 => ?_; simp only [zO, zT, acs, reduceCtorEq, J, D, M, U, O, S]; (repeat refine an ?_); (try refine .inl ?_); apply k0; clear k0; simp only [zP, D])
   refine aO rfl fun _ k0 => ?_
   refine ar (h := ah (oX x1 t.1 (by omega) (by omega))) rfl rfl (by first | exact rfl | (simp only [ev, zP, J, D]; exact rfl)) (by simp only [zV, acs, reduceCtorEq, J, D, M, U, O, S]) ?_
   apply k0; clear k0; simp only [zP, D]
   (refine V rfl fun _ k0 => ?_; simp only [zO, zT, acs, reduceCtorEq, J, D, M, U, O, S]; (repeat refine an ?_); (try refine .inl ?_); apply k0; clear k0; simp only [zP, D])
   refine aa ?_
   refine ⟨by simp only [zP, J, D]; exact rfl, rfl, ?_, rfl⟩; (repeat refine aB rfl ?_); exact aQ (by exact rfl) hq15
  case b15 => exact bg
  simp only [aN, aG]
  (refine V rfl fun _ k0 => ?_; simp only [zO, zT, acs, reduceCtorEq, J, D, M, U, O, S]; (repeat refine an ?_); (try refine .inl ?_); apply k0; clear k0; simp only [zP, D])
  refine aa ?_
  apply k9; clear k9; refine kp [0, 3, 4, 5, 6, 8, 11, 12, 13, 14, 20] ?_
  refine kp [0, 3, 4, 5, 6, 11, 12, 13] ?_
  refine aq (L1 := [_, _, _, _]) rfl (by rw [hB]; exact Nat.le_refl _) rfl rfl ?_
  refine a9 hP hN rfl ?_
  iterate 2 (refine V rfl fun _ k0 => ?_; simp only [zO, zT, acs, reduceCtorEq, J, D, M, U, O, S]; (repeat refine an ?_); (try refine .inl ?_); apply k0; clear k0; simp only [zP, D])
  refine aa ?_
  refine ⟨_, _, ?_, aw [0, 3, 4, 5, 6, 11, 12, 13], k + 1, by omega, fun q hq2 => ?_, rfl, ?_⟩
  · omega
  · by_cases e : q = k
    · rw [e, hgx]; have h8 : dfO (x1, (x2, ())) t < 0 := hnd; omega
    · exact hq q (by omega)
  · rw [jm (by omega), hgx]; rfl
 (try simp only [zB, reduceCtorEq] at hc8)
 refine aV ?_
 apply k3; clear k3; refine kp [0, 3, 4, 5, 6, 11, 12, 13, 14] ?_
 refine Z fun _ k16 => ?_
 refine Z fun _ k17 => ?_
 have hF : False := by rw [sb fun q hq2 => hq q (by omega)] at hn; cases hn
 refine a9 hP hN rfl ?_
 iterate 2 (refine V rfl fun _ k0 => ?_; simp only [zO, zT, acs, reduceCtorEq, J, D, M, U, O, S]; (repeat refine an ?_); (try refine .inl ?_); apply k0; clear k0; simp only [zP, D])
 refine' aC (want := false) 4 rfl (m := 31) (by simp only [zP, J, D]; exact rfl) (by kernel_rfl) rfl rfl rfl rfl rfl (fun hg18 => ?a18) ?b18 ?c18
 case a18 =>
  have hq18 := hg18; (try simp only [zB, reduceCtorEq] at hg18); simp only [zE]
  iterate 4 (refine aO rfl fun _ k0 => ?_; simp only [zO, zT, acs, reduceCtorEq, J, D, M, U, O, S]; (repeat refine an ?_); (try refine .inl ?_); apply k0; clear k0; simp only [zP, D])
  (refine V rfl fun _ k0 => ?_; simp only [zO, zT, acs, reduceCtorEq, J, D, M, U, O, S]; (repeat refine an ?_); (try refine .inl ?_); apply k0; clear k0; simp only [zP, D])
  refine aa ?_
  refine ⟨by simp only [zP, J, D]; exact rfl, rfl, ?_, rfl⟩; (repeat refine aB rfl ?_); exact aQ (by exact rfl) hq18
 case b18 => exact bg
 simp only [aN, aG]
 refine aa ?_
 apply k17; clear k17; refine kp [0, 3, 4, 5, 6, 11, 12, 13, 14, 36] ?_
 refine cd (fun hc19 => ?_) (fun hc19 => ?_)
 ·exfalso; (try simp only [zB, reduceCtorEq] at hc19)
  exact hF
 ·exfalso; (try simp only [zB, reduceCtorEq] at hc19)
  exact hF
set_option maxHeartbeats 2000000 in
theorem tw (n : Int) (X : List TRC) (v : Nat) (xs : List TRC) (t : TRC) (hs : SRT xs) (hl : xs.length ≤ 9000) (hb : LB 100000 xs) (ht : t.1.length ≤ 100000 ∧ t.2.1.length ≤ 100000) (hn : gl xs t = false) : cr Tryd.prog [.vars 47 [.int .i64 n, .list (.pair (.list (.int .i64)) (.pair (.list (.int .i64)) .unit)) X], .vars 47 [.int .i64 0, .nils], .row (.pair (.list (.int .i64)) (.pair (.list (.int .i64)) .unit)) 60 v xs, .vars 60 [.list (.int .i64) t.1, .list (.int .i64) t.2.1]] 80 [.one (.row 2 v), .agg [.list (.int .i64) t.1, .list (.int .i64) t.2.1]] { av := .tup [.one (.row 2 (adv v xs t)), .one (.int .i64 0)], upd := [(2, .row (.pair (.list (.int .i64)) (.pair (.list (.int .i64)) .unit)) 60 (adv v xs t) (fz xs t))], fp := [0, 1, 2, 3] } := by
 refine cK _ _ Tryd.func80 rfl (by kernel_rfl) (Nat.le_of_ble_eq_true rfl) (by intro k hk; simp only [af, au, Nat.zero_add, D] at hk; simp only [List.mem_cons, List.not_mem_nil, or_false]; omega) (fun C hP hN hB => ?_)
 replace hB : C.bL.length = 4 := by rw [hB]; rfl
 replace hN : C.N = 56 := hN
 simp only [aL, D]
 refine Z fun _ k1 => ?_
 refine a9 hP hN rfl ?_
 iterate 3 (refine V rfl fun _ k0 => ?_; simp only [zO, zT, acs, reduceCtorEq, J, D, M, U, O, S]; (repeat refine an ?_); (try refine .inl ?_); apply k0; clear k0; simp only [zP, D])
 refine aa ?_
 apply k1; clear k1; refine kp [0, 1, 3, 4, 5] ?_
 refine Z fun _ k2 => ?_
 refine gQ 4 (.pair (.list (.int .i64)) (.pair (.list (.int .i64)) .unit)) rfl rfl ?_; simp only [aR, bf, shV, if_true, zS, if_false, eq_self, J, reduceCtorEq, Nat.one_ne_zero, Nat.zero_ne_one]
 refine aq (L1 := [_, _, _, _]) rfl (by rw [hB]; exact Nat.le_refl _) rfl rfl ?_
 refine a9 hP hN rfl ?_
 (refine V rfl fun _ k0 => ?_; simp only [zO, zT, acs, reduceCtorEq, J, D, M, U, O, S]; (repeat refine an ?_); (try refine .inl ?_); apply k0; clear k0; simp only [zP, D])
 refine aa ?_
 apply k2; clear k2; refine kp [0, 1, 3, 4, 5, 6] ?_
 refine Z fun _ k3 => ?_
 refine Z fun _ k4 => ?_
 refine a9 hP hN rfl ?_
 iterate 3 (refine V rfl fun _ k0 => ?_; simp only [zO, zT, acs, reduceCtorEq, J, D, M, U, O, S]; (repeat refine an ?_); (try refine .inl ?_); apply k0; clear k0; simp only [zP, D])
 refine aa ?_
 apply k4; clear k4; refine kp [0, 1, 3, 4, 5, 6, 11, 12, 13] ?_
 refine az ?_
 refine aX (fun n5 s5 => ∃ (k : Nat), (k ≤ xs.length) ∧ (∀ q : Nat, q < k → ¬ 0 ≤ dfO (xs.getD q aP) t) ∧ n5 = xs.length - k ∧ s5 = { env := [(0, .one (.row 2 v)), (3, .one (.pat (.pair (.list (.int .i64)) (.pair (.list (.int .i64)) .unit)) (t.1, (t.2.1, ())) 0)), (4, .one .nils), (5, .one (.int .i64 0)), (6, .one (.bool (gU xs t k))), (11, .one (.row 2 v)), (12, .one (.int .i64 (xs.length : Int))), (13, .one (.int .i64 (k : Int)))], L := [.vars 47 [.int .i64 n, .list (.pair (.list (.int .i64)) (.pair (.list (.int .i64)) .unit)) X], .vars 47 [.int .i64 0, .nils], .row (.pair (.list (.int .i64)) (.pair (.list (.int .i64)) .unit)) 60 v xs, .vars 60 [.list (.int .i64) t.1, .list (.int .i64) t.2.1]] }) ?_ ?_
 ·exact ⟨_, _, aw [0, 3, 4, 5, 6, 11, 12, 13], 0, Nat.zero_le _, fun q hq => by omega, rfl, rfl⟩
 rintro n5 s5 ⟨k, hk, hq, rfl, rfl⟩
 refine Z fun _ k6 => ?_
 refine a9 hP hN rfl ?_
 (refine V rfl fun _ k0 => ?_; simp only [zO, zT, acs, reduceCtorEq, J, D, M, U, O, S]; (repeat refine an ?_); (try refine .inl ?_); apply k0; clear k0; simp only [zP, D])
 refine aa ?_
 apply k6; clear k6; refine kp [0, 3, 4, 5, 6, 11, 12, 13, 14] ?_
 refine Z fun _ k7 => ?_
 refine cd (fun hc8 => ?_) (fun hc8 => ?_)
 ·(try simp only [zB, reduceCtorEq] at hc8)
  refine am ?_
  apply k7; clear k7; refine kp [0, 3, 4, 5, 6, 11, 12, 13, 14] ?_
  refine Z fun _ k9 => ?_
  refine az ?_
  refine Z fun _ k10 => ?_
  obtain ⟨x1, x2, hgx⟩ : ∃ x1 x2, ∀ d, xs.getD k d = (x1, (x2, ())) := ⟨_, _, cq (by omega)⟩
  have hbx := hb.get (k := k) (by omega) (hgx _)
  refine a9 hP hN rfl ?_
  iterate 4 (refine V rfl fun _ k0 => ?_; simp only [zO, zT, acs, reduceCtorEq, J, D, M, U, O, S, gt, ae, hgx]; (repeat refine an ?_); (try refine .inl ?_); apply k0; clear k0; simp only [zP, D])
  refine aa ?_
  apply k10; clear k10; refine kp [0, 3, 4, 5, 6, 8, 11, 12, 13, 14] ?_
  refine Z fun _ k11 => ?_
  refine Z fun _ k12 => ?_
  refine a9 hP hN rfl ?_
  iterate 2 (refine V rfl fun _ k0 => ?_; simp only [zO, zT, acs, reduceCtorEq, J, D, M, U, O, S]; (repeat refine an ?_); (try refine .inl ?_); apply k0; clear k0; simp only [zP, D])
  refine V rfl fun _ k0 => ?_
  refine ar (h := ah (kh (x1, (x2, ())) (t.1, (t.2.1, ())) hbx.1 ht.1 hbx.2 ht.2)) rfl rfl (by first | exact rfl | (simp only [ev, zP, J, D]; exact rfl)) (by simp only [zV, acs, reduceCtorEq, J, D, M, U, O, S]) ?_
  apply k0; clear k0; simp only [zP, D]
  (refine V rfl fun _ k0 => ?_; simp only [zO, zT, acs, reduceCtorEq, J, D, M, U, O, S]; (repeat refine an ?_); (try refine .inl ?_); apply k0; clear k0; simp only [zP, D])
  refine aa ?_
  apply k12; clear k12; refine kp [0, 3, 4, 5, 6, 8, 11, 12, 13, 14, 20] ?_
  refine cd (fun hc13 => ?_) (fun hc13 => ?_)
  ·exfalso; (try simp only [zB, reduceCtorEq] at hc13)
   have h8 := hc13
   rw [sF (k := k) (by omega) (by rw [hgx]; exact h8)] at hn; cases hn
  (try simp only [zB, reduceCtorEq] at hc13)
  have hnd := hc13
  refine am ?_
  apply k11; clear k11; refine kp [0, 3, 4, 5, 6, 8, 11, 12, 13, 14, 20] ?_
  refine a9 hP hN rfl ?_
  iterate 2 (refine V rfl fun _ k0 => ?_; simp only [zO, zT, acs, reduceCtorEq, J, D, M, U, O, S]; (repeat refine an ?_); (try refine .inl ?_); apply k0; clear k0; simp only [zP, D])
  refine' aC (want := false) 5 rfl (m := 22) (by simp only [zP, J, D]; exact rfl) (by kernel_rfl) rfl rfl rfl rfl rfl (fun hg14 => ?a14) ?b14 ?c14
  case a14 =>
   have hq14 := hg14; (try simp only [zB, reduceCtorEq] at hg14); simp only [zE]
   iterate 4 (refine aO rfl fun _ k0 => ?_; simp only [zO, zT, acs, reduceCtorEq, J, D, M, U, O, S]; (repeat refine an ?_); (try refine .inl ?_); apply k0; clear k0; simp only [zP, D])
   refine aO rfl fun _ k0 => ?_
   refine ar (h := ah (oX x1 t.1 (by omega) (by omega))) rfl rfl (by first | exact rfl | (simp only [ev, zP, J, D]; exact rfl)) (by simp only [zV, acs, reduceCtorEq, J, D, M, U, O, S]) ?_
   apply k0; clear k0; simp only [zP, D]
   (refine V rfl fun _ k0 => ?_; simp only [zO, zT, acs, reduceCtorEq, J, D, M, U, O, S]; (repeat refine an ?_); (try refine .inl ?_); apply k0; clear k0; simp only [zP, D])
   refine aa ?_
   refine ⟨by simp only [zP, J, D]; exact rfl, rfl, ?_, rfl⟩; (repeat refine aB rfl ?_); exact aQ (by exact rfl) hq14
  case b14 => exact bg
  simp only [aN, aG]
  (refine V rfl fun _ k0 => ?_; simp only [zO, zT, acs, reduceCtorEq, J, D, M, U, O, S]; (repeat refine an ?_); (try refine .inl ?_); apply k0; clear k0; simp only [zP, D])
  refine aa ?_
  apply k9; clear k9; refine kp [0, 3, 4, 5, 6, 8, 11, 12, 13, 14, 20] ?_
  refine kp [0, 3, 4, 5, 6, 11, 12, 13] ?_
  refine aq (L1 := [_, _, _, _]) rfl (by rw [hB]; exact Nat.le_refl _) rfl rfl ?_
  refine a9 hP hN rfl ?_
  iterate 2 (refine V rfl fun _ k0 => ?_; simp only [zO, zT, acs, reduceCtorEq, J, D, M, U, O, S]; (repeat refine an ?_); (try refine .inl ?_); apply k0; clear k0; simp only [zP, D])
  refine aa ?_
  refine ⟨_, _, ?_, aw [0, 3, 4, 5, 6, 11, 12, 13], k + 1, by omega, fun q hq2 => ?_, rfl, ?_⟩
  · omega
  · by_cases e : q = k
    · rw [e, hgx]; have h8 : dfO (x1, (x2, ())) t < 0 := hnd; omega
    · exact hq q (by omega)
  · rw [jm (by omega), hgx]; rfl
 (try simp only [zB, reduceCtorEq] at hc8)
 refine aV ?_
 apply k3; clear k3; refine kp [0, 3, 4, 5, 6, 11, 12, 13, 14] ?_
 refine Z fun _ k15 => ?_
 refine Z fun _ k16 => ?_
 refine a9 hP hN rfl ?_
 iterate 2 (refine V rfl fun _ k0 => ?_; simp only [zO, zT, acs, reduceCtorEq, J, D, M, U, O, S]; (repeat refine an ?_); (try refine .inl ?_); apply k0; clear k0; simp only [zP, D])
 refine' aC (want := false) 4 rfl (m := 31) (by simp only [zP, J, D]; exact rfl) (by kernel_rfl) rfl rfl rfl rfl rfl (fun hg17 => ?a17) ?b17 ?c17
 case a17 =>
  have hq17 := hg17; (try simp only [zB, reduceCtorEq] at hg17); simp only [zE]
  iterate 4 (refine aO rfl fun _ k0 => ?_; simp only [zO, zT, acs, reduceCtorEq, J, D, M, U, O, S]; (repeat refine an ?_); (try refine .inl ?_); apply k0; clear k0; simp only [zP, D])
  (refine V rfl fun _ k0 => ?_; simp only [zO, zT, acs, reduceCtorEq, J, D, M, U, O, S]; (repeat refine an ?_); (try refine .inl ?_); apply k0; clear k0; simp only [zP, D])
  refine aa ?_
  refine ⟨by simp only [zP, J, D]; exact rfl, rfl, ?_, rfl⟩; (repeat refine aB rfl ?_); exact aQ (by exact rfl) hq17
 case b17 => exact bg
 simp only [aN, aG]
 refine aa ?_
 apply k16; clear k16; refine kp [0, 3, 4, 5, 6, 11, 12, 13, 14, 36] ?_
 refine cd (fun hc18 => ?_) (fun hc18 => ?_)
 ·(try simp only [zB, reduceCtorEq] at hc18)
  have hin : fA xs t = true := by rw [jZ]; rw [show k = xs.length by omega] at hc18; simpa using hc18
  obtain ⟨e1, e2⟩ := tW (v := v) hin
  refine Z fun _ k19 => ?_
  refine a9 hP hN rfl ?_
  iterate 3 (refine V rfl fun _ k0 => ?_; simp only [zO, zT, acs, reduceCtorEq, J, D, M, U, O, S]; (repeat refine an ?_); (try refine .inl ?_); apply k0; clear k0; simp only [zP, D])
  refine aa ?_
  apply k19; clear k19; refine kp [0, 3, 4, 5, 6, 11, 12, 13, 14, 36] ?_
  refine kp [4, 5] ?_
  first
  | (refine aq (L1 := [_, _, _, _]) rfl (by rw [hB]; exact Nat.le_refl _) rfl rfl ?_)
  | skip
  refine ak ?_
  refine ⟨by first | exact .inl rfl | exact .inr rfl, _, rfl, ?_⟩; simp only [zP, J, D]
  rw [e1, e2]
  first | exact ⟨rfl, rfl⟩ | rfl
 (try simp only [zB, reduceCtorEq] at hc18)
 have hin : fA xs t = false := by rw [jZ]; rw [show k = xs.length by omega] at hc18; simpa using hc18
 obtain ⟨e1, e2⟩ := sZ (v := v) hin
 refine am ?_
 apply k15; clear k15; refine kp [0, 3, 4, 5, 6, 11, 12, 13, 14, 36] ?_
 refine Z fun _ k20 => ?_
 refine a9 hP hN rfl ?_
 (refine V rfl fun _ k0 => ?_; simp only [zO, zT, acs, reduceCtorEq, J, D, M, U, O, S]; (repeat refine an ?_); (try refine .inl ?_); apply k0; clear k0; simp only [zP, D])
 (refine V rfl fun _ k0 => ?_; simp only [zE, op1, ev, lkp, c9, be, dI, eB, jd, reduceCtorEq, J, D, M, U, O, S, Tryd.el27, Tryd.td126, Tryd.td27]; (repeat refine an ?_); (try refine .inl ?_); apply k0; clear k0; simp only [zP, D])
 refine V rfl fun _ k0 => ?_
 refine ar (h := sR n X v xs t (by omega) hb ht.1) rfl rfl (by first | exact rfl | (simp only [ev, zP, J, D]; exact rfl)) (by simp only [zV, acs, reduceCtorEq, J, D, M, U, O, S]) ?_
 apply k0; clear k0; simp only [zP, D]
 (refine V rfl fun _ k0 => ?_; simp only [zO, zT, acs, reduceCtorEq, J, D, M, U, O, S]; (repeat refine an ?_); (try refine .inl ?_); apply k0; clear k0; simp only [zP, D])
 refine aa ?_
 apply k20; clear k20; refine kp [0, 3, 4, 5, 6, 11, 12, 13, 14, 36] ?_
 refine Z fun _ k21 => ?_
 refine Z fun _ k22 => ?_
 have hdl := m4 xs t
 refine a9 hP hN rfl ?_
 iterate 3 (refine V rfl fun _ k0 => ?_; simp only [zO, zT, acs, reduceCtorEq, J, D, M, U, O, S]; (repeat refine an ?_); (try refine .inl ?_); apply k0; clear k0; simp only [zP, D])
 refine aa ?_
 apply k22; clear k22; refine kp [0, 3, 4, 5, 6, 11, 12, 13, 14, 36, 43] ?_
 refine cd (fun hc23 => ?_) (fun hc23 => ?_)
 ·exfalso; (try simp only [zB, reduceCtorEq] at hc23)
  omega
 (try simp only [zB, reduceCtorEq] at hc23)
 refine am ?_
 apply k21; clear k21; refine kp [0, 3, 4, 5, 6, 11, 12, 13, 14, 36, 43] ?_
 refine Z fun _ k24 => ?_
 refine a9 hP hN rfl ?_
 iterate 2 (refine V rfl fun _ k0 => ?_; simp only [zO, zT, acs, reduceCtorEq, J, D, M, U, O, S]; (repeat refine an ?_); (try refine .inl ?_); apply k0; clear k0; simp only [zP, D])
 refine V rfl fun _ k0 => ?_
 refine ar (h := jp (args := [.one (.row 2 (dlv v xs t)), .agg [.list (.int .i64) t.1, .list (.int .i64) t.2.1], .one (.fn 95 [])]) (by simp [fzV, fz1, fzC, gR]) rfl (u9 (dK xs t) (t.1, (t.2.1, ())) (su hs) (by omega)) rfl) rfl rfl (by first | exact rfl | (simp only [ev, zP, J, D]; exact rfl)) (by simp only [zV, acs, reduceCtorEq, J, D, M, U, O, S]) ?_
 apply k0; clear k0; simp only [zP, D]
 iterate 5 (refine V rfl fun _ k0 => ?_; simp only [zO, zT, acs, reduceCtorEq, J, D, M, U, O, S]; (repeat refine an ?_); (try refine .inl ?_); apply k0; clear k0; simp only [zP, D])
 refine aa ?_
 apply k24; clear k24; refine kp [0, 3, 4, 5, 6, 9, 11, 12, 13, 14, 36, 43] ?_
 refine Z fun _ k25 => ?_
 have hpl := pB (dK xs t) t
 refine a9 hP hN rfl ?_
 iterate 3 (refine V rfl fun _ k0 => ?_; simp only [zO, zT, acs, reduceCtorEq, J, D, M, U, O, S]; (repeat refine an ?_); (try refine .inl ?_); apply k0; clear k0; simp only [zP, D])
 refine V rfl fun _ k0 => ?_
 refine ar (h := ah (lI (t.1, (t.2.1, ())) ht.1 ht.2)) rfl rfl (by first | exact rfl | (simp only [ev, zP, J, D]; exact rfl)) (by simp only [zV, acs, reduceCtorEq, J, D, M, U, O, S]) ?_
 apply k0; clear k0; simp only [zP, D]
 (refine V rfl fun _ k0 => ?_; simp only [zO, zT, acs, reduceCtorEq, J, D, M, U, O, S]; (repeat refine an ?_); refine Or.inr (Or.inl (k0 _ ?_)); clear k0; simp only [zP, D])
 refine V rfl fun _ k0 => ?_
 refine ar (h := tY (k := 2) (j := 4) (ver := dlv v xs t) (vj := 0) (xs := dK xs t) (x := (t.1, (t.2.1, ()))) (i := plc (dK xs t) t) rfl rfl (by decide) (by omega) (by omega)) rfl rfl (by first | exact rfl | (simp only [ev, zP, J, D]; exact rfl)) (by simp only [zV, acs, reduceCtorEq, J, D, M, U, O, S]) ?_
 apply k0; clear k0; simp only [zP, D]
 iterate 2 (refine V rfl fun _ k0 => ?_; simp only [zO, zT, acs, reduceCtorEq, J, D, M, U, O, S]; (repeat refine an ?_); (try refine .inl ?_); apply k0; clear k0; simp only [zP, D])
 refine aa ?_
 apply k25; clear k25; refine kp [0, 3, 4, 5, 6, 9, 11, 12, 13, 14, 36, 43] ?_
 refine kp [4, 5] ?_
 first
 | (refine aq (L1 := [_, _, _, _]) rfl (by rw [hB]; exact Nat.le_refl _) rfl rfl ?_)
 | skip
 refine ak ?_
 refine ⟨by first | exact .inl rfl | exact .inr rfl, _, rfl, ?_⟩; simp only [zP, J, D]
 rw [e1, e2]
 first | exact ⟨rfl, rfl⟩ | rfl
theorem ub (a n : Int) : aW Tryd.prog 76 [.one (.int .i64 a), .one (.pat (.int .i64) n 0)] (.one (.bool (decide (a < 0) || decide (n ≤ a)))) := by
 refine aA Tryd.func76 rfl (by kernel_rfl) (Nat.le_of_ble_eq_true rfl) rfl fun C hP hN hB => ?_
 replace hN : C.N = 11 := hN
 simp only [aL, D]
 refine Z fun _ k1 => ?_
 refine a9 hP hN rfl ?_
 (refine V rfl fun _ k0 => ?_; simp only [zO, zT, acs, reduceCtorEq, J, D, M, U, O, S]; (repeat refine an ?_); (try refine .inl ?_); apply k0; clear k0; simp only [zP, D])
 refine aa ?_
 apply k1; clear k1; refine kp [0, 1, 3] ?_
 refine Z fun _ k2 => ?_
 refine a9 hP hN rfl ?_
 iterate 3 (refine V rfl fun _ k0 => ?_; simp only [zO, zT, acs, reduceCtorEq, J, D, M, U, O, S]; (repeat refine an ?_); (try refine .inl ?_); apply k0; clear k0; simp only [zP, D])
 refine' aC (want := false) 3 rfl (m := 6) (by simp only [zP, J, D]; exact rfl) (by kernel_rfl) rfl rfl rfl rfl rfl (fun hg3 => ?a3) ?b3 ?c3
 case a3 =>
  have hq3 := hg3; (try simp only [zB, reduceCtorEq] at hg3); simp only [zE]
  iterate 3 (refine aO rfl fun _ k0 => ?_; simp only [zO, zT, acs, reduceCtorEq, J, D, M, U, O, S]; (repeat refine an ?_); (try refine .inl ?_); apply k0; clear k0; simp only [zP, D])
  (refine V rfl fun _ k0 => ?_; simp only [zO, zT, acs, reduceCtorEq, J, D, M, U, O, S]; (repeat refine an ?_); (try refine .inl ?_); apply k0; clear k0; simp only [zP, D])
  refine aa ?_
  refine ⟨by simp only [zP, J, D]; exact rfl, rfl, ?_, rfl⟩; (repeat refine aB rfl ?_); exact aQ (by exact rfl) hq3
 case b3 => exact bg
 simp only [aN, aG]
 (refine V rfl fun _ k0 => ?_; simp only [zO, zT, acs, reduceCtorEq, J, D, M, U, O, S]; (repeat refine an ?_); (try refine .inl ?_); apply k0; clear k0; simp only [zP, D])
 refine aa ?_
 apply k2; clear k2; refine kp [0, 1, 3] ?_
 refine ak ?_
 refine ⟨nr, _, rfl, ?_⟩; simp only [zF, zP, J, D]
 refine VLE.of_eq ?_
 rfl
theorem ua (w : List Int) (n : Int) (hw : w.length ≤ 1024) : aW Tryd.prog 87 [.one (.list (.int .i64) w), .one (.fn 76 [.pat (.int .i64) n])] (.one (.int .i64 (fO w n))) := by
 refine aA Tryd.func87 rfl (by kernel_rfl) (Nat.le_of_ble_eq_true rfl) rfl fun C hP hN hB => ?_
 replace hN : C.N = 19 := hN
 simp only [aL, D]
 refine Z fun _ k1 => ?_
 refine a9 hP hN rfl ?_
 (refine V rfl fun _ k0 => ?_; simp only [zO, zT, acs, reduceCtorEq, J, D, M, U, O, S]; (repeat refine an ?_); (try refine .inl ?_); apply k0; clear k0; simp only [zP, D])
 refine aa ?_
 apply k1; clear k1; refine kp [0, 1, 4] ?_
 refine Z fun _ k2 => ?_
 refine Z fun _ k3 => ?_
 refine a9 hP hN rfl ?_
 iterate 3 (refine V rfl fun _ k0 => ?_; simp only [zO, zT, acs, reduceCtorEq, J, D, M, U, O, S]; (repeat refine an ?_); (try refine .inl ?_); apply k0; clear k0; simp only [zP, D])
 refine aa ?_
 apply k3; clear k3; refine kp [0, 1, 4, 7, 8] ?_
 refine az ?_
 refine aX (fun n4 s4 => ∃ (k : Nat), (k ≤ w.length) ∧ (∀ i, i < k → ¬ bD n (w.getD i 0)) ∧ n4 = w.length - k ∧ s4 = { env := [(0, .one (.list (.int .i64) w)), (1, .one (.fn 76 [.pat (.int .i64) n])), (7, .one (.int .i64 (w.length : Int))), (8, .one (.int .i64 (k : Int)))], L := [] }) ?_ ?_
 ·exact ⟨_, _, aw [0, 1, 7, 8], 0, Nat.zero_le _, fun i hi => by omega, rfl, rfl⟩
 rintro n4 s4 ⟨k, hk, hI, rfl, rfl⟩
 refine Z fun _ k5 => ?_
 refine a9 hP hN rfl ?_
 (refine V rfl fun _ k0 => ?_; simp only [zO, zT, acs, reduceCtorEq, J, D, M, U, O, S]; (repeat refine an ?_); (try refine .inl ?_); apply k0; clear k0; simp only [zP, D])
 refine aa ?_
 apply k5; clear k5; refine kp [0, 1, 7, 8, 9] ?_
 refine Z fun _ k6 => ?_
 refine cd (fun hc7 => ?_) (fun hc7 => ?_)
 ·(try simp only [zB, reduceCtorEq] at hc7)
  refine am ?_
  apply k6; clear k6; refine kp [0, 1, 7, 8, 9] ?_
  refine Z fun _ k8 => ?_
  refine az ?_
  refine Z fun _ k9 => ?_
  refine a9 hP hN rfl ?_
  iterate 2 (refine V rfl fun _ k0 => ?_; simp only [zO, zT, acs, reduceCtorEq, J, D, M, U, O, S]; (repeat refine an ?_); (try refine .inl ?_); apply k0; clear k0; simp only [zP, D])
  refine aa ?_
  apply k9; clear k9; refine kp [0, 1, 5, 7, 8, 9] ?_
  refine Z fun _ k10 => ?_
  refine a9 hP hN rfl ?_
  iterate 5 (refine V rfl fun _ k0 => ?_; simp only [zO, zT, acs, reduceCtorEq, J, D, M, U, O, S]; (repeat refine an ?_); (try refine .inl ?_); apply k0; clear k0; simp only [zP, D])
  refine V rfl fun _ k0 => ?_
  refine ar (h := ah (ub (w.getD k 0) n)) rfl rfl (by first | exact rfl | (simp only [ev, zP, J, D]; exact rfl)) (by simp only [zV, acs, reduceCtorEq, J, D, M, U, O, S]) ?_
  apply k0; clear k0; simp only [zP, D]
  refine aa ?_
  apply k10; clear k10; refine kp [0, 1, 5, 7, 8, 9, 16] ?_
  refine cd (fun hc11 => ?_) (fun hc11 => ?_)
  ·(try simp only [zB, reduceCtorEq] at hc11)
   refine Z fun _ k12 => ?_
   refine a9 hP hN rfl ?_
   iterate 2 (refine V rfl fun _ k0 => ?_; simp only [zO, zT, acs, reduceCtorEq, J, D, M, U, O, S]; (repeat refine an ?_); (try refine .inl ?_); apply k0; clear k0; simp only [zP, D])
   refine aa ?_
   apply k12; clear k12; refine kp [0, 1, 4, 5, 7, 8, 9, 16] ?_
   refine ak ?_
   refine ⟨nr, _, rfl, ?_⟩; simp only [zF, zP, J, D]
   refine VLE.of_eq ?_
   refine congrArg (fun n => AV.one (AC.int IntKind.i64 n)) ?_
   symm
   first
   | exact nR (by omega) hI (by unfold bD; omega)
   | exact gW fun i hi => hI i (by omega)
  (try simp only [zB, reduceCtorEq] at hc11)
  refine am ?_
  apply k8; clear k8; refine kp [0, 1, 5, 7, 8, 9, 16] ?_
  refine a9 hP hN rfl ?_
  iterate 2 (refine V rfl fun _ k0 => ?_; simp only [zO, zT, acs, reduceCtorEq, J, D, M, U, O, S]; (repeat refine an ?_); (try refine .inl ?_); apply k0; clear k0; simp only [zP, D])
  refine aa ?_
  refine ⟨_, _, ?_, aw [0, 1, 7, 8], k + 1, by omega, fun i hi => ?_, rfl, rfl⟩
  · omega
  · by_cases e : i = k
    · rw [e]; unfold bD; omega
    · exact hI i (by omega)
 (try simp only [zB, reduceCtorEq] at hc7)
 refine aV ?_
 apply k2; clear k2; refine kp [0, 1, 7, 8, 9] ?_
 refine Z fun _ k13 => ?_
 refine a9 hP hN rfl ?_
 (refine V rfl fun _ k0 => ?_; simp only [zO, zT, acs, reduceCtorEq, J, D, M, U, O, S]; (repeat refine an ?_); (try refine .inl ?_); apply k0; clear k0; simp only [zP, D])
 refine aa ?_
 apply k13; clear k13; refine kp [0, 1, 4, 7, 8, 9] ?_
 refine ak ?_
 refine ⟨nr, _, rfl, ?_⟩; simp only [zF, zP, J, D]
 refine VLE.of_eq ?_
 refine congrArg (fun n => AV.one (AC.int IntKind.i64 n)) ?_
 symm
 first
 | exact nR (by omega) hI (by unfold bD; omega)
 | exact gW fun i hi => hI i (by omega)
theorem sY (w : List Int) (n : Int) (hw : w.length ≤ 1024) : aW Tryd.prog 75 [.one (.list (.int .i64) w), .one (.fn 76 [.pat (.int .i64) n])] (.one (.bool (decide (0 ≤ fO w n)))) := by
 refine aA Tryd.func75 rfl (by kernel_rfl) (Nat.le_of_ble_eq_true rfl) rfl fun C hP hN hB => ?_
 replace hN : C.N = 9 := hN
 simp only [aL, D]
 refine Z fun _ k1 => ?_
 refine a9 hP hN rfl ?_
 (refine V rfl fun _ k0 => ?_; simp only [zO, zT, acs, reduceCtorEq, J, D, M, U, O, S]; (repeat refine an ?_); (try refine .inl ?_); apply k0; clear k0; simp only [zP, D])
 refine aa ?_
 apply k1; clear k1; refine kp [0, 1, 4] ?_
 refine Z fun _ k2 => ?_
 refine a9 hP hN rfl ?_
 iterate 2 (refine V rfl fun _ k0 => ?_; simp only [zO, zT, acs, reduceCtorEq, J, D, M, U, O, S]; (repeat refine an ?_); (try refine .inl ?_); apply k0; clear k0; simp only [zP, D])
 refine V rfl fun _ k0 => ?_
 refine ar (h := ah (ua w n hw)) rfl rfl (by first | exact rfl | (simp only [ev, zP, J, D]; exact rfl)) (by simp only [zV, acs, reduceCtorEq, J, D, M, U, O, S]) ?_
 apply k0; clear k0; simp only [zP, D]
 iterate 2 (refine V rfl fun _ k0 => ?_; simp only [zO, zT, acs, reduceCtorEq, J, D, M, U, O, S]; (repeat refine an ?_); (try refine .inl ?_); apply k0; clear k0; simp only [zP, D])
 refine aa ?_
 apply k2; clear k2; refine kp [0, 1, 4] ?_
 refine ak ?_
 refine ⟨nr, _, rfl, ?_⟩; simp only [zF, zP, J, D]
 refine VLE.of_eq ?_
 rfl
theorem tK (n : Int) : aW Tryd.prog 74 [.one (.int .i64 n)] (.one (.bool (decide (1 ≤ n) && decide (n ≤ 1024)))) := by
 refine aA Tryd.func74 rfl (by kernel_rfl) (Nat.le_of_ble_eq_true rfl) rfl fun C hP hN hB => ?_
 replace hN : C.N = 9 := hN
 simp only [aL, D]
 refine Z fun _ k1 => ?_
 refine a9 hP hN rfl ?_
 (refine V rfl fun _ k0 => ?_; simp only [zO, zT, acs, reduceCtorEq, J, D, M, U, O, S]; (repeat refine an ?_); (try refine .inl ?_); apply k0; clear k0; simp only [zP, D])
 refine aa ?_
 apply k1; clear k1; refine kp [0, 2] ?_
 refine Z fun _ k2 => ?_
 refine a9 hP hN rfl ?_
 iterate 3 (refine V rfl fun _ k0 => ?_; simp only [zO, zT, acs, reduceCtorEq, J, D, M, U, O, S]; (repeat refine an ?_); (try refine .inl ?_); apply k0; clear k0; simp only [zP, D])
 refine' aC (want := true) 2 rfl (m := 5) (by simp only [zP, J, D]; exact rfl) (by kernel_rfl) rfl rfl rfl rfl rfl (fun hg3 => ?a3) ?b3 ?c3
 case a3 =>
  have hq3 := hg3; (try simp only [zB, reduceCtorEq] at hg3); simp only [zE]
  iterate 2 (refine aO rfl fun _ k0 => ?_; simp only [zO, zT, acs, reduceCtorEq, J, D, M, U, O, S]; (repeat refine an ?_); (try refine .inl ?_); apply k0; clear k0; simp only [zP, D])
  (refine V rfl fun _ k0 => ?_; simp only [zO, zT, acs, reduceCtorEq, J, D, M, U, O, S]; (repeat refine an ?_); (try refine .inl ?_); apply k0; clear k0; simp only [zP, D])
  refine aa ?_
  refine ⟨by simp only [zP, J, D]; exact rfl, rfl, ?_, rfl⟩; (repeat refine aB rfl ?_); exact aQ (by exact rfl) hq3
 case b3 => exact bg
 simp only [aN, aG]
 (refine V rfl fun _ k0 => ?_; simp only [zO, zT, acs, reduceCtorEq, J, D, M, U, O, S]; (repeat refine an ?_); (try refine .inl ?_); apply k0; clear k0; simp only [zP, D])
 refine aa ?_
 apply k2; clear k2; refine kp [0, 2] ?_
 refine ak ?_
 refine ⟨nr, _, rfl, ?_⟩; simp only [zF, zP, J, D]
 refine VLE.of_eq ?_
 rfl
theorem nM (w : List Int) (n : Int) : aW Tryd.prog 57 [.one (.list (.int .i64) w), .one (.int .i64 n)] (.one (.int .i64 (br w n))) := by
 refine aA Tryd.func57 rfl (by kernel_rfl) (Nat.le_of_ble_eq_true rfl) rfl fun C hP hN hB => ?_
 replace hN : C.N = 17 := hN
 simp only [aL, D]
 refine Z fun _ k1 => ?_
 refine a9 hP hN rfl ?_
 iterate 2 (refine V rfl fun _ k0 => ?_; simp only [zO, zT, acs, reduceCtorEq, J, D, M, U, O, S]; (repeat refine an ?_); (try refine .inl ?_); apply k0; clear k0; simp only [zP, D])
 refine aa ?_
 apply k1; clear k1; refine kp [0, 1, 3, 4] ?_
 refine Z fun _ k2 => ?_
 refine az ?_
 refine Z fun _ k3 => ?_
 refine a9 hP hN rfl ?_
 (refine V rfl fun _ k0 => ?_; simp only [zO, zT, acs, reduceCtorEq, J, D, M, U, O, S]; (repeat refine an ?_); (try refine .inl ?_); apply k0; clear k0; simp only [zP, D])
 refine V rfl fun _ k0 => ?_
 refine ar (h := ah (tK n)) rfl rfl (by first | exact rfl | (simp only [ev, zP, J, D]; exact rfl)) (by simp only [zV, acs, reduceCtorEq, J, D, M, U, O, S]) ?_
 apply k0; clear k0; simp only [zP, D]
 iterate 2 (refine V rfl fun _ k0 => ?_; simp only [zO, zT, acs, reduceCtorEq, J, D, M, U, O, S]; (repeat refine an ?_); (try refine .inl ?_); apply k0; clear k0; simp only [zP, D])
 refine aa ?_
 apply k3; clear k3; refine kp [0, 1, 3, 4, 5] ?_
 refine cd (fun hc4 => ?_) (fun hc4 => ?_)
 ·(try simp only [zB, reduceCtorEq] at hc4)
  refine Z fun _ k5 => ?_
  refine a9 hP hN rfl ?_
  (refine V rfl fun _ k0 => ?_; simp only [zO, zT, acs, reduceCtorEq, J, D, M, U, O, S]; (repeat refine an ?_); (try refine .inl ?_); apply k0; clear k0; simp only [zP, D])
  refine aa ?_
  apply k5; clear k5; refine kp [0, 1, 3, 4, 5] ?_
  refine ak ?_
  refine ⟨nr, _, rfl, ?_⟩; simp only [zF, zP, J, D]
  refine VLE.of_eq ?_
  refine congrArg (fun n => AV.one (AC.int IntKind.i64 n)) ?_
  symm
  first
  | (unfold br; rw [if_pos (by omega)]; done)
  | (unfold br; rw [if_neg (by omega), if_pos (by omega)]; done)
  | exact fg (by omega) (by omega) (by omega) (by omega)
  | exact dU (by omega) (by omega) (by omega) (by omega)
 (try simp only [zB, reduceCtorEq] at hc4)
 refine Z fun _ k6 => ?_
 refine a9 hP hN rfl ?_
 iterate 4 (refine V rfl fun _ k0 => ?_; simp only [zO, zT, acs, reduceCtorEq, J, D, M, U, O, S]; (repeat refine an ?_); (try refine .inl ?_); apply k0; clear k0; simp only [zP, D])
 refine aa ?_
 apply k6; clear k6; refine kp [0, 1, 3, 4, 5, 9] ?_
 refine cd (fun hc7 => ?_) (fun hc7 => ?_)
 ·(try simp only [zB, reduceCtorEq] at hc7)
  refine Z fun _ k8 => ?_
  refine a9 hP hN rfl ?_
  (refine V rfl fun _ k0 => ?_; simp only [zO, zT, acs, reduceCtorEq, J, D, M, U, O, S]; (repeat refine an ?_); (try refine .inl ?_); apply k0; clear k0; simp only [zP, D])
  refine aa ?_
  apply k8; clear k8; refine kp [0, 1, 3, 4, 5, 9] ?_
  refine ak ?_
  refine ⟨nr, _, rfl, ?_⟩; simp only [zF, zP, J, D]
  refine VLE.of_eq ?_
  refine congrArg (fun n => AV.one (AC.int IntKind.i64 n)) ?_
  symm
  first
  | (unfold br; rw [if_pos (by omega)]; done)
  | (unfold br; rw [if_neg (by omega), if_pos (by omega)]; done)
  | exact fg (by omega) (by omega) (by omega) (by omega)
  | exact dU (by omega) (by omega) (by omega) (by omega)
 (try simp only [zB, reduceCtorEq] at hc7)
 refine Z fun _ k9 => ?_
 refine gQ 0 (.int .i64) rfl rfl ?_; simp only [aR, bf, shV, if_true, bG]
 refine a9 hP hN rfl ?_
 (refine V rfl fun _ k0 => ?_; simp only [zO, zT, acs, reduceCtorEq, J, D, M, U, O, S]; (repeat refine an ?_); (try refine .inl ?_); apply k0; clear k0; simp only [zP, D])
 (refine V rfl fun _ k0 => ?_; simp only [zE, op1, ev, lkp, c9, be, dI, eB, jd, reduceCtorEq, J, D, M, U, O, S, Tryd.el43, Tryd.td103, Tryd.td43]; (repeat refine an ?_); (try refine .inl ?_); apply k0; clear k0; simp only [zP, D])
 refine V rfl fun _ k0 => ?_
 refine ar (h := ah (sY w n (by omega))) rfl rfl (by first | exact rfl | (simp only [ev, zP, J, D]; exact rfl)) (by simp only [zV, acs, reduceCtorEq, J, D, M, U, O, S]) ?_
 apply k0; clear k0; simp only [zP, D]
 (refine V rfl fun _ k0 => ?_; simp only [zO, zT, acs, reduceCtorEq, J, D, M, U, O, S]; (repeat refine an ?_); (try refine .inl ?_); apply k0; clear k0; simp only [zP, D])
 refine aa ?_
 apply k9; clear k9; refine kp [0, 1, 3, 4, 5, 9, 13] ?_
 refine cd (fun hc10 => ?_) (fun hc10 => ?_)
 ·(try simp only [zB, reduceCtorEq] at hc10)
  refine Z fun _ k11 => ?_
  refine a9 hP hN rfl ?_
  (refine V rfl fun _ k0 => ?_; simp only [zO, zT, acs, reduceCtorEq, J, D, M, U, O, S]; (repeat refine an ?_); (try refine .inl ?_); apply k0; clear k0; simp only [zP, D])
  refine aa ?_
  apply k11; clear k11; refine kp [0, 1, 3, 4, 5, 9, 13] ?_
  refine ak ?_
  refine ⟨nr, _, rfl, ?_⟩; simp only [zF, zP, J, D]
  refine VLE.of_eq ?_
  refine congrArg (fun n => AV.one (AC.int IntKind.i64 n)) ?_
  symm
  first
  | (unfold br; rw [if_pos (by omega)]; done)
  | (unfold br; rw [if_neg (by omega), if_pos (by omega)]; done)
  | exact fg (by omega) (by omega) (by omega) (by omega)
  | exact dU (by omega) (by omega) (by omega) (by omega)
 (try simp only [zB, reduceCtorEq] at hc10)
 refine am ?_
 apply k2; clear k2; refine kp [0, 1, 3, 4, 5, 9, 13] ?_
 refine Z fun _ k12 => ?_
 refine a9 hP hN rfl ?_
 (refine V rfl fun _ k0 => ?_; simp only [zO, zT, acs, reduceCtorEq, J, D, M, U, O, S]; (repeat refine an ?_); (try refine .inl ?_); apply k0; clear k0; simp only [zP, D])
 refine aa ?_
 apply k12; clear k12; refine kp [0, 1, 3, 4, 5, 9, 13] ?_
 refine ak ?_
 refine ⟨nr, _, rfl, ?_⟩; simp only [zF, zP, J, D]
 refine VLE.of_eq ?_
 refine congrArg (fun n => AV.one (AC.int IntKind.i64 n)) ?_
 symm
 first
 | (unfold br; rw [if_pos (by omega)]; done)
 | (unfold br; rw [if_neg (by omega), if_pos (by omega)]; done)
 | exact fg (by omega) (by omega) (by omega) (by omega)
 | exact dU (by omega) (by omega) (by omega) (by omega)
theorem ta (xs : List Int) (f : Nat) (caps : List Cap) (p : Int → Bool) (hcap : caps.all gR = true) (hf : ∀ k, k < xs.length → aW Tryd.prog f (.one (.int .i64 (xs.getD k 0)) :: caps.map bQ) (.one (.bool (p (xs.getD k 0))))) : aW Tryd.prog 87 [.one (.list (.int .i64) xs), .one (.fn f caps)] (.one (.int .i64 (fX p xs))) := by
 refine aA Tryd.func87 rfl (by kernel_rfl) (Nat.le_of_ble_eq_true rfl) (by simp only [List.all_cons, List.all_nil, fj, fW, fK, hcap, Bool.and_true]) fun C hP hN hB => ?_
 replace hN : C.N = 19 := hN
 simp only [aL, D]
 refine cO 0 rfl fun hf0 => ?_; simp only [lkp, if_true, if_false, reduceCtorEq, J, eq_self, Nat.one_ne_zero, Nat.zero_ne_one, eT, eu, eD, Fit, and_true, implies_true, true_and] at hf0
 refine Z fun _ k1 => ?_
 refine a9 hP hN rfl ?_
 (refine V rfl fun _ k0 => ?_; simp only [zO, zT, acs, reduceCtorEq, J, D, M, U, O, S]; (repeat refine an ?_); (try refine .inl ?_); apply k0; clear k0; simp only [zP, D])
 refine aa ?_
 apply k1; clear k1; refine kp [0, 1, 4] ?_
 refine Z fun _ k2 => ?_
 refine Z fun _ k3 => ?_
 refine a9 hP hN rfl ?_
 iterate 3 (refine V rfl fun _ k0 => ?_; simp only [zO, zT, acs, reduceCtorEq, J, D, M, U, O, S]; (repeat refine an ?_); (try refine .inl ?_); apply k0; clear k0; simp only [zP, D])
 refine aa ?_
 apply k3; clear k3; refine kp [0, 1, 4, 7, 8] ?_
 refine az ?_
 refine aX (fun n4 s4 => ∃ (k : Nat), (k ≤ xs.length) ∧ (∀ q, q < k → p (xs.getD q 0) = false) ∧ n4 = xs.length - k ∧ s4 = { env := [(0, .one (.list (.int .i64) xs)), (1, .one (.fn f caps)), (7, .one (.int .i64 (xs.length : Int))), (8, .one (.int .i64 (k : Int)))], L := [] }) ?_ ?_
 ·exact ⟨_, _, aw [0, 1, 7, 8], 0, Nat.zero_le _, fun i hi => by omega, rfl, rfl⟩
 rintro n4 s4 ⟨k, hk, hq, rfl, rfl⟩
 refine Z fun _ k5 => ?_
 refine a9 hP hN rfl ?_
 (refine V rfl fun _ k0 => ?_; simp only [zO, zT, acs, reduceCtorEq, J, D, M, U, O, S]; (repeat refine an ?_); (try refine .inl ?_); apply k0; clear k0; simp only [zP, D])
 refine aa ?_
 apply k5; clear k5; refine kp [0, 1, 7, 8, 9] ?_
 refine Z fun _ k6 => ?_
 refine cd (fun hc7 => ?_) (fun hc7 => ?_)
 ·(try simp only [zB, reduceCtorEq] at hc7)
  refine am ?_
  apply k6; clear k6; refine kp [0, 1, 7, 8, 9] ?_
  refine Z fun _ k8 => ?_
  refine az ?_
  refine Z fun _ k9 => ?_
  refine a9 hP hN rfl ?_
  iterate 2 (refine V rfl fun _ k0 => ?_; simp only [zO, zT, acs, reduceCtorEq, J, D, M, U, O, S]; (repeat refine an ?_); (try refine .inl ?_); apply k0; clear k0; simp only [zP, D])
  refine aa ?_
  apply k9; clear k9; refine kp [0, 1, 5, 7, 8, 9] ?_
  refine Z fun _ k10 => ?_
  refine a9 hP hN rfl ?_
  iterate 5 (refine V rfl fun _ k0 => ?_; simp only [zO, zT, acs, reduceCtorEq, J, D, M, U, O, S]; (repeat refine an ?_); (try refine .inl ?_); apply k0; clear k0; simp only [zP, D])
  refine V rfl fun _ k0 => ?_
  refine ar (h := ah (hf k (by omega))) rfl rfl (by first | exact rfl | (simp only [ev, zP, J, D]; exact rfl)) (by simp only [zV, acs, reduceCtorEq, J, D, M, U, O, S]) ?_
  apply k0; clear k0; simp only [zP, D]
  refine aa ?_
  apply k10; clear k10; refine kp [0, 1, 5, 7, 8, 9, 16] ?_
  refine cd (fun hc11 => ?_) (fun hc11 => ?_)
  ·(try simp only [zB, reduceCtorEq] at hc11)
   refine Z fun _ k12 => ?_
   refine a9 hP hN rfl ?_
   iterate 2 (refine V rfl fun _ k0 => ?_; simp only [zO, zT, acs, reduceCtorEq, J, D, M, U, O, S]; (repeat refine an ?_); (try refine .inl ?_); apply k0; clear k0; simp only [zP, D])
   refine aa ?_
   apply k12; clear k12; refine kp [0, 1, 4, 5, 7, 8, 9, 16] ?_
   refine ak ?_
   refine ⟨nr, _, rfl, ?_⟩; simp only [zF, zP, J, D]
   refine VLE.of_eq ?_
   refine congrArg (fun n => AV.one (AC.int IntKind.i64 n)) ?_
   symm
   first
   | exact oq (by omega) hq (by assumption)
   | exact lh fun q hq2 => hq q (by omega)
  (try simp only [zB, reduceCtorEq] at hc11)
  refine am ?_
  apply k8; clear k8; refine kp [0, 1, 5, 7, 8, 9, 16] ?_
  refine a9 hP hN rfl ?_
  iterate 2 (refine V rfl fun _ k0 => ?_; simp only [zO, zT, acs, reduceCtorEq, J, D, M, U, O, S]; (repeat refine an ?_); (try refine .inl ?_); apply k0; clear k0; simp only [zP, D])
  refine aa ?_
  refine ⟨_, _, ?_, aw [0, 1, 7, 8], k + 1, by omega, fun q hq2 => ?_, rfl, rfl⟩
  · omega
  · by_cases e : q = k
    · rw [e]; assumption
    · exact hq q (by omega)
 (try simp only [zB, reduceCtorEq] at hc7)
 refine aV ?_
 apply k2; clear k2; refine kp [0, 1, 7, 8, 9] ?_
 refine Z fun _ k13 => ?_
 refine a9 hP hN rfl ?_
 (refine V rfl fun _ k0 => ?_; simp only [zO, zT, acs, reduceCtorEq, J, D, M, U, O, S]; (repeat refine an ?_); (try refine .inl ?_); apply k0; clear k0; simp only [zP, D])
 refine aa ?_
 apply k13; clear k13; refine kp [0, 1, 4, 7, 8, 9] ?_
 refine ak ?_
 refine ⟨nr, _, rfl, ?_⟩; simp only [zF, zP, J, D]
 refine VLE.of_eq ?_
 refine congrArg (fun n => AV.one (AC.int IntKind.i64 n)) ?_
 symm
 first
 | exact oq (by omega) hq (by assumption)
 | exact lh fun q hq2 => hq q (by omega)
theorem sf (xs : List Int) (f : Nat) (caps : List Cap) (p : Int → Bool) (hcap : caps.all gR = true) (hf : ∀ k, k < xs.length → aW Tryd.prog f (.one (.int .i64 (xs.getD k 0)) :: caps.map bQ) (.one (.bool (p (xs.getD k 0))))) : aW Tryd.prog 75 [.one (.list (.int .i64) xs), .one (.fn f caps)] (.one (.bool (decide (0 ≤ fX p xs)))) := by
 refine aA Tryd.func75 rfl (by kernel_rfl) (Nat.le_of_ble_eq_true rfl) (by simp only [List.all_cons, List.all_nil, fj, fW, fK, hcap, Bool.and_true]) fun C hP hN hB => ?_
 replace hN : C.N = 9 := hN
 simp only [aL, D]
 refine Z fun _ k1 => ?_
 refine a9 hP hN rfl ?_
 (refine V rfl fun _ k0 => ?_; simp only [zO, zT, acs, reduceCtorEq, J, D, M, U, O, S]; (repeat refine an ?_); (try refine .inl ?_); apply k0; clear k0; simp only [zP, D])
 refine aa ?_
 apply k1; clear k1; refine kp [0, 1, 4] ?_
 refine Z fun _ k2 => ?_
 refine a9 hP hN rfl ?_
 iterate 2 (refine V rfl fun _ k0 => ?_; simp only [zO, zT, acs, reduceCtorEq, J, D, M, U, O, S]; (repeat refine an ?_); (try refine .inl ?_); apply k0; clear k0; simp only [zP, D])
 refine V rfl fun _ k0 => ?_
 refine ar (h := ah (ta xs f caps p hcap hf)) rfl rfl (by first | exact rfl | (simp only [ev, zP, J, D]; exact rfl)) (by simp only [zV, acs, reduceCtorEq, J, D, M, U, O, S]) ?_
 apply k0; clear k0; simp only [zP, D]
 iterate 2 (refine V rfl fun _ k0 => ?_; simp only [zO, zT, acs, reduceCtorEq, J, D, M, U, O, S]; (repeat refine an ?_); (try refine .inl ?_); apply k0; clear k0; simp only [zP, D])
 refine aa ?_
 apply k2; clear k2; refine kp [0, 1, 4] ?_
 refine ak ?_
 refine ⟨nr, _, rfl, ?_⟩; simp only [zF, zP, J, D]
 refine VLE.of_eq ?_
 rfl
theorem qs (o : Int) : aW Tryd.prog 89 [.one (.int .i64 o)] (.one (.bool (pO o))) := by
 refine aA Tryd.func89 rfl (by kernel_rfl) (Nat.le_of_ble_eq_true rfl) rfl fun C hP hN hB => ?_
 replace hN : C.N = 9 := hN
 simp only [aL, D]
 refine Z fun _ k1 => ?_
 refine a9 hP hN rfl ?_
 (refine V rfl fun _ k0 => ?_; simp only [zO, zT, acs, reduceCtorEq, J, D, M, U, O, S]; (repeat refine an ?_); (try refine .inl ?_); apply k0; clear k0; simp only [zP, D])
 refine aa ?_
 apply k1; clear k1; refine kp [0, 2] ?_
 refine Z fun _ k2 => ?_
 refine a9 hP hN rfl ?_
 iterate 3 (refine V rfl fun _ k0 => ?_; simp only [zO, zT, acs, reduceCtorEq, J, D, M, U, O, S]; (repeat refine an ?_); (try refine .inl ?_); apply k0; clear k0; simp only [zP, D])
 refine' aC (want := false) 2 rfl (m := 5) (by simp only [zP, J, D]; exact rfl) (by kernel_rfl) rfl rfl rfl rfl rfl (fun hg3 => ?a3) ?b3 ?c3
 case a3 =>
  have hq3 := hg3; (try simp only [zB, reduceCtorEq] at hg3); simp only [zE]
  iterate 2 (refine aO rfl fun _ k0 => ?_; simp only [zO, zT, acs, reduceCtorEq, J, D, M, U, O, S]; (repeat refine an ?_); (try refine .inl ?_); apply k0; clear k0; simp only [zP, D])
  (refine V rfl fun _ k0 => ?_; simp only [zO, zT, acs, reduceCtorEq, J, D, M, U, O, S]; (repeat refine an ?_); (try refine .inl ?_); apply k0; clear k0; simp only [zP, D])
  refine aa ?_
  refine ⟨by simp only [zP, J, D]; exact rfl, rfl, ?_, rfl⟩; (repeat refine aB rfl ?_); exact aQ (by exact rfl) hq3
 case b3 => exact bg
 simp only [aN, aG]
 (refine V rfl fun _ k0 => ?_; simp only [zO, zT, acs, reduceCtorEq, J, D, M, U, O, S]; (repeat refine an ?_); (try refine .inl ?_); apply k0; clear k0; simp only [zP, D])
 refine aa ?_
 apply k2; clear k2; refine kp [0, 2] ?_
 refine ak ?_
 refine ⟨nr, _, rfl, ?_⟩; simp only [zF, zP, J, D]
 refine VLE.of_eq ?_
 unfold pO; rfl
theorem oV (t : TRC) (n : Int) : aW Tryd.prog 79 [.agg [.list (.int .i64) t.1, .list (.int .i64) t.2.1], .one (.int .i64 n)] (.one (.int .i64 (prO n t))) := by
 refine aA Tryd.func79 rfl (by kernel_rfl) (Nat.le_of_ble_eq_true rfl) rfl fun C hP hN hB => ?_
 replace hN : C.N = 25 := hN
 simp only [aL, D]
 refine Z fun _ k1 => ?_
 refine a9 hP hN rfl ?_
 iterate 2 (refine V rfl fun _ k0 => ?_; simp only [zO, zT, acs, reduceCtorEq, J, D, M, U, O, S]; (repeat refine an ?_); (try refine .inl ?_); apply k0; clear k0; simp only [zP, D])
 refine aa ?_
 apply k1; clear k1; refine kp [0, 1, 2, 4] ?_
 refine Z fun _ k2 => ?_
 refine Z fun _ k3 => ?_
 refine a9 hP hN rfl ?_
 iterate 3 (refine V rfl fun _ k0 => ?_; simp only [zO, zT, acs, reduceCtorEq, J, D, M, U, O, S]; (repeat refine an ?_); (try refine .inl ?_); apply k0; clear k0; simp only [zP, D])
 refine V rfl fun _ k0 => ?_
 refine ar (h := ah (nM t.1 n)) rfl rfl (by first | exact rfl | (simp only [ev, zP, J, D]; exact rfl)) (by simp only [zV, acs, reduceCtorEq, J, D, M, U, O, S]) ?_
 apply k0; clear k0; simp only [zP, D]
 (refine V rfl fun _ k0 => ?_; simp only [zO, zT, acs, reduceCtorEq, J, D, M, U, O, S]; (repeat refine an ?_); (try refine .inl ?_); apply k0; clear k0; simp only [zP, D])
 refine aa ?_
 apply k3; clear k3; refine kp [0, 1, 2, 4, 5] ?_
 refine Z fun _ k4 => ?_
 refine a9 hP hN rfl ?_
 iterate 2 (refine V rfl fun _ k0 => ?_; simp only [zO, zT, acs, reduceCtorEq, J, D, M, U, O, S]; (repeat refine an ?_); (try refine .inl ?_); apply k0; clear k0; simp only [zP, D])
 refine aa ?_
 apply k4; clear k4; refine kp [0, 1, 2, 4, 5, 11] ?_
 refine cd (fun hc5 => ?_) (fun hc5 => ?_)
 ·(try simp only [zB, reduceCtorEq] at hc5)
  have h1 := hc5
  refine Z fun _ k6 => ?_
  refine a9 hP hN rfl ?_
  iterate 2 (refine V rfl fun _ k0 => ?_; simp only [zO, zT, acs, reduceCtorEq, J, D, M, U, O, S]; (repeat refine an ?_); (try refine .inl ?_); apply k0; clear k0; simp only [zP, D])
  refine aa ?_
  apply k6; clear k6; refine kp [0, 1, 2, 4, 5, 11] ?_
  refine ak ?_
  refine ⟨nr, _, rfl, ?_⟩; simp only [zF, zP, J, D]
  refine VLE.of_eq ?_
  refine congrArg (fun n => AV.one (AC.int IntKind.i64 n)) ?_
  symm
  first
  | exact kI (by omega)
  | exact kS (by omega) (by omega)
  | exact mm (by omega) (by omega) (by omega)
  | exact mD (by omega) (by omega) (by omega)
 (try simp only [zB, reduceCtorEq] at hc5)
 have h1 := hc5
 refine am ?_
 apply k2; clear k2; refine kp [0, 1, 2, 4, 5, 11] ?_
 refine Z fun _ k7 => ?_
 refine az ?_
 refine Z fun _ k8 => ?_
 refine a9 hP hN rfl ?_
 iterate 8 (refine V rfl fun _ k0 => ?_; simp only [zO, zT, acs, reduceCtorEq, J, D, M, U, O, S]; (repeat refine an ?_); (try refine .inl ?_); apply k0; clear k0; simp only [zP, D])
 refine aa ?_
 apply k8; clear k8; refine kp [0, 1, 2, 4, 5, 11, 13] ?_
 refine cd (fun hc9 => ?_) (fun hc9 => ?_)
 ·(try simp only [zB, reduceCtorEq] at hc9)
  have h2 := hc9
  refine Z fun _ k10 => ?_
  refine a9 hP hN rfl ?_
  (refine V rfl fun _ k0 => ?_; simp only [zO, zT, acs, reduceCtorEq, J, D, M, U, O, S]; (repeat refine an ?_); (try refine .inl ?_); apply k0; clear k0; simp only [zP, D])
  refine aa ?_
  apply k10; clear k10; refine kp [0, 1, 2, 4, 5, 11, 13] ?_
  refine ak ?_
  refine ⟨nr, _, rfl, ?_⟩; simp only [zF, zP, J, D]
  refine VLE.of_eq ?_
  refine congrArg (fun n => AV.one (AC.int IntKind.i64 n)) ?_
  symm
  first
  | exact kI (by omega)
  | exact kS (by omega) (by omega)
  | exact mm (by omega) (by omega) (by omega)
  | exact mD (by omega) (by omega) (by omega)
 (try simp only [zB, reduceCtorEq] at hc9)
 have h2 := hc9
 refine Z fun _ k11 => ?_
 refine a9 hP hN rfl ?_
 iterate 2 (refine V rfl fun _ k0 => ?_; simp only [zO, zT, acs, reduceCtorEq, J, D, M, U, O, S]; (repeat refine an ?_); (try refine .inl ?_); apply k0; clear k0; simp only [zP, D])
 refine V rfl fun _ k0 => ?_
 refine ar (h := ah (sf t.2.1 89 [] pO rfl (fun k hk => qs (t.2.1.getD k 0)))) rfl rfl (by first | exact rfl | (simp only [ev, zP, J, D]; exact rfl)) (by simp only [zV, acs, reduceCtorEq, J, D, M, U, O, S]) ?_
 apply k0; clear k0; simp only [zP, D]
 (refine V rfl fun _ k0 => ?_; simp only [zO, zT, acs, reduceCtorEq, J, D, M, U, O, S]; (repeat refine an ?_); (try refine .inl ?_); apply k0; clear k0; simp only [zP, D])
 refine aa ?_
 apply k11; clear k11; refine kp [0, 1, 2, 4, 5, 11, 13, 21] ?_
 refine cd (fun hc12 => ?_) (fun hc12 => ?_)
 ·(try simp only [zB, reduceCtorEq] at hc12)
  have h3 := hc12
  refine Z fun _ k13 => ?_
  refine a9 hP hN rfl ?_
  (refine V rfl fun _ k0 => ?_; simp only [zO, zT, acs, reduceCtorEq, J, D, M, U, O, S]; (repeat refine an ?_); (try refine .inl ?_); apply k0; clear k0; simp only [zP, D])
  refine aa ?_
  apply k13; clear k13; refine kp [0, 1, 2, 4, 5, 11, 13, 21] ?_
  refine ak ?_
  refine ⟨nr, _, rfl, ?_⟩; simp only [zF, zP, J, D]
  refine VLE.of_eq ?_
  refine congrArg (fun n => AV.one (AC.int IntKind.i64 n)) ?_
  symm
  first
  | exact kI (by omega)
  | exact kS (by omega) (by omega)
  | exact mm (by omega) (by omega) (by omega)
  | exact mD (by omega) (by omega) (by omega)
 (try simp only [zB, reduceCtorEq] at hc12)
 have h3 := hc12
 refine am ?_
 apply k7; clear k7; refine kp [0, 1, 2, 4, 5, 11, 13, 21] ?_
 refine Z fun _ k14 => ?_
 refine a9 hP hN rfl ?_
 (refine V rfl fun _ k0 => ?_; simp only [zO, zT, acs, reduceCtorEq, J, D, M, U, O, S]; (repeat refine an ?_); (try refine .inl ?_); apply k0; clear k0; simp only [zP, D])
 refine aa ?_
 apply k14; clear k14; refine kp [0, 1, 2, 4, 5, 11, 13, 21] ?_
 refine ak ?_
 refine ⟨nr, _, rfl, ?_⟩; simp only [zF, zP, J, D]
 refine VLE.of_eq ?_
 refine congrArg (fun n => AV.one (AC.int IntKind.i64 n)) ?_
 symm
 first
 | exact kI (by omega)
 | exact kS (by omega) (by omega)
 | exact mm (by omega) (by omega) (by omega)
 | exact mD (by omega) (by omega) (by omega)
theorem rM (xs : List TRC) (hl : xs.length ≤ 1000000) (hb : LB 100000 xs) : rI Tryd.prog 78 [.one (.list (.pair (.list (.int .i64)) (.pair (.list (.int .i64)) .unit)) xs)] (.pair (.list (.int .i64)) (.pair (.list (.int .i64)) .unit)) 60 (xs) := by
 refine mh Tryd.func78 rfl (by kernel_rfl) (Nat.le_of_ble_eq_true rfl) rfl fun C hP hN hB => ?_
 replace hN : C.N = 23 := hN
 simp only [aL, D]
 refine cO 0 rfl fun hf0 => ?_; simp only [lkp, if_true, if_false, reduceCtorEq, J, eq_self, Nat.one_ne_zero, Nat.zero_ne_one, eT, eu, eD, Fit, and_true, implies_true, true_and] at hf0
 refine Z fun _ k1 => ?_
 refine a9 hP hN rfl ?_
 (refine V rfl fun _ k0 => ?_; simp only [zO, zT, acs, reduceCtorEq, J, D, M, U, O, S]; (repeat refine an ?_); (try refine .inl ?_); apply k0; clear k0; simp only [zP, D])
 refine aa ?_
 apply k1; clear k1; refine kp [0, 2] ?_
 refine Z fun _ k2 => ?_
 refine a9 hP hN rfl ?_
 iterate 3 (refine V rfl fun _ k0 => ?_; simp only [zO, zT, acs, reduceCtorEq, J, D, M, U, O, S]; (repeat refine an ?_); (try refine .inl ?_); apply k0; clear k0; simp only [zP, D])
 (refine V rfl fun _ k0 => ?_; simp only [zE, op1, ev, lkp, c9, be, cm, gJ, fU, bJ, ci, dn, Nat.div_one, cW, cD, Ty.size, b9, dite_true, dA, bj, cB, cS, cp, d6, dm, Ty.dflt, reduceCtorEq, J, D, M, U, O, S, Tryd.el27, Tryd.td27, Tryd.td3]; (repeat refine an ?_); (try refine .inl ?_); apply k0; clear k0; simp only [zP, D])
 (refine V rfl fun _ k0 => ?_; simp only [zO, zT, acs, reduceCtorEq, J, D, M, U, O, S]; (repeat refine an ?_); (try refine .inl ?_); apply k0; clear k0; simp only [zP, D])
 refine aa ?_
 apply k2; clear k2; refine kp [0, 2, 3] ?_
 refine Z fun _ k3 => ?_
 refine Z fun _ k4 => ?_
 refine a9 hP hN rfl ?_
 iterate 3 (refine V rfl fun _ k0 => ?_; simp only [zO, zT, acs, reduceCtorEq, J, D, M, U, O, S]; (repeat refine an ?_); (try refine .inl ?_); apply k0; clear k0; simp only [zP, D])
 refine aa ?_
 apply k4; clear k4; refine kp [0, 2, 3, 10, 11, 12] ?_
 refine az ?_
 refine aX (fun n5 s5 => ∃ (k v : Nat), (k ≤ xs.length) ∧ n5 = xs.length - k ∧ s5 = { env := [(2, .one .nils), (3, .one (.row 0 v)), (10, .one (.list (.pair (.list (.int .i64)) (.pair (.list (.int .i64)) .unit)) xs)), (11, .one (.int .i64 (xs.length : Int))), (12, .one (.int .i64 (k : Int)))], L := [.row (.pair (.list (.int .i64)) (.pair (.list (.int .i64)) .unit)) 60 v (xs.take k)] }) ?_ ?_
 ·exact ⟨_, _, aw [2, 3, 10, 11, 12], 0, 0, Nat.zero_le _, rfl, rfl⟩
 rintro n5 s5 ⟨k, v, hk, rfl, rfl⟩
 refine Z fun _ k6 => ?_
 refine a9 hP hN rfl ?_
 (refine V rfl fun _ k0 => ?_; simp only [zO, zT, acs, reduceCtorEq, J, D, M, U, O, S]; (repeat refine an ?_); (try refine .inl ?_); apply k0; clear k0; simp only [zP, D])
 refine aa ?_
 apply k6; clear k6; refine kp [2, 3, 10, 11, 12, 13] ?_
 refine Z fun _ k7 => ?_
 refine cd (fun hc8 => ?_) (fun hc8 => ?_)
 ·(try simp only [zB, reduceCtorEq] at hc8)
  refine am ?_
  apply k7; clear k7; refine kp [2, 3, 10, 11, 12, 13] ?_
  refine Z fun _ k9 => ?_
  refine az ?_
  refine Z fun _ k10 => ?_
  obtain ⟨x1, x2, hgx⟩ : ∃ x1 x2, ∀ d, xs.getD k d = (x1, (x2, ())) := ⟨_, _, cq (by omega)⟩
  refine a9 hP hN rfl ?_
  iterate 4 (refine V rfl fun _ k0 => ?_; simp only [zO, zT, acs, reduceCtorEq, J, D, M, U, O, S, gt, ae, hgx]; (repeat refine an ?_); (try refine .inl ?_); apply k0; clear k0; simp only [zP, D])
  refine aa ?_
  apply k10; clear k10; refine kp [2, 3, 5, 10, 11, 12, 13] ?_
  refine a9 hP hN rfl ?_
  iterate 2 (refine V rfl fun _ k0 => ?_; simp only [zO, zT, acs, reduceCtorEq, J, D, M, U, O, S, List.length_take]; (repeat refine an ?_); (try refine .inl ?_); apply k0; clear k0; simp only [zP, D])
  refine V rfl fun _ k0 => ?_
  refine ar (h := ah (lI (x1, (x2, ())) (hb.get (by omega) (hgx _)).1 (hb.get (by omega) (hgx _)).2)) rfl rfl (by first | exact rfl | (simp only [ev, zP, J, D]; exact rfl)) (by simp only [zV, acs, reduceCtorEq, J, D, M, U, O, S, List.length_take]) ?_
  apply k0; clear k0; simp only [zP, D]
  iterate 3 (refine V rfl fun _ k0 => ?_; simp only [zO, zT, acs, reduceCtorEq, J, D, M, U, O, S, List.length_take]; (repeat refine an ?_); (try refine .inl ?_); apply k0; clear k0; simp only [zP, D])
  refine aa ?_
  apply k9; clear k9; refine kp [2, 3, 5, 10, 11, 12, 13] ?_
  refine kp [2, 3, 10, 11, 12] ?_
  refine aq (L1 := [_]) rfl (by rw [hB]; exact Nat.zero_le _) rfl rfl ?_
  refine a9 hP hN rfl ?_
  iterate 2 (refine V rfl fun _ k0 => ?_; simp only [zO, zT, acs, reduceCtorEq, J, D, M, U, O, S]; (repeat refine an ?_); (try refine .inl ?_); apply k0; clear k0; simp only [zP, D])
  refine aa ?_
  refine ⟨_, _, ?_, aw [2, 3, 10, 11, 12], k + 1, v + 1, by omega, rfl, ?_⟩
  · omega
  · rw [jj (show k < xs.length by omega), hgx]; rfl
 (try simp only [zB, reduceCtorEq] at hc8)
 refine aV ?_
 apply k3; clear k3; refine kp [2, 3, 10, 11, 12, 13] ?_
 refine Z fun _ k11 => ?_
 have hkl : k = xs.length := by omega
 rw [hkl, aE]
 refine a9 hP hN rfl ?_
 iterate 2 (refine V rfl fun _ k0 => ?_; simp only [zO, zT, acs, reduceCtorEq, J, D, M, U, O, S]; (repeat refine an ?_); (try refine .inl ?_); apply k0; clear k0; simp only [zP, D])
 refine aa ?_
 apply k11; clear k11; refine kp [2, 3, 10, 11, 12, 13] ?_
 refine ak ?_
 refine ⟨by first | exact .inl rfl | exact .inr rfl, _, rfl, _, _, rfl, ?_⟩
 rfl
set_option maxHeartbeats 2000000 in
theorem tz (n : Int) (X l : List TRC) (hs : SRT X) (hb : LB 100000 X) (hl : X.length + l.length ≤ 9000) : aW Tryd.prog 63 [.agg [.int .i64 n, .list (.pair (.list (.int .i64)) (.pair (.list (.int .i64)) .unit)) X], .one (.list (.pair (.list (.int .i64)) (.pair (.list (.int .i64)) .unit)) l)] (.tup [.agg [.int .i64 n, .list (.pair (.list (.int .i64)) (.pair (.list (.int .i64)) .unit)) (jq n X l)], .one (.int .i64 (gE n X l))]) := by
 refine aA Tryd.func63 rfl (by kernel_rfl) (Nat.le_of_ble_eq_true rfl) rfl fun C hP hN hB => ?_
 replace hN : C.N = 45 := hN
 simp only [aL, D]
 refine Z fun _ k1 => ?_
 refine a9 hP hN rfl ?_
 iterate 3 (refine V rfl fun _ k0 => ?_; simp only [zO, zT, acs, reduceCtorEq, J, D, M, U, O, S]; (repeat refine an ?_); (try refine .inl ?_); apply k0; clear k0; simp only [zP, D])
 refine aa ?_
 apply k1; clear k1; refine kp [0, 1, 2, 4, 5] ?_
 refine Z fun _ k2 => ?_
 refine a9 hP hN rfl ?_
 iterate 2 (refine V rfl fun _ k0 => ?_; simp only [zO, zT, acs, reduceCtorEq, J, D, M, U, O, S]; (repeat refine an ?_); (try refine .inl ?_); apply k0; clear k0; simp only [zP, D])
 refine V rfl fun _ k0 => ?_
 refine ar (h := oO (rM X (by omega) hb)) rfl rfl (by first | exact rfl | (simp only [ev, zP, J, D]; exact rfl)) (by simp only [zV, acs, reduceCtorEq, J, D, M, U, O, S]) ?_
 apply k0; clear k0; simp only [zP, D]
 (refine V rfl fun _ k0 => ?_; simp only [zO, zT, acs, reduceCtorEq, J, D, M, U, O, S]; (repeat refine an ?_); (try refine .inl ?_); apply k0; clear k0; simp only [zP, D])
 refine aa ?_
 apply k2; clear k2; refine kp [0, 1, 2, 4, 5, 6] ?_
 refine Z fun _ k3 => ?_
 refine Z fun _ k4 => ?_
 refine a9 hP hN rfl ?_
 iterate 3 (refine V rfl fun _ k0 => ?_; simp only [zO, zT, acs, reduceCtorEq, J, D, M, U, O, S]; (repeat refine an ?_); (try refine .inl ?_); apply k0; clear k0; simp only [zP, D])
 refine aa ?_
 apply k4; clear k4; refine kp [0, 1, 2, 4, 5, 6, 15, 16, 17] ?_
 refine az ?_
 refine aX (fun n5 s5 => ∃ (k v : Nat), (k ≤ l.length) ∧ (∀ q : Nat, q < k → d4 n X l q = 0) ∧ n5 = l.length - k ∧ s5 = { env := [(2, .one (.ptr 0 0 0 0)), (4, .one (.ptr 1 0 0 0)), (5, .one (.int .i64 0)), (6, .one (.row 2 v)), (15, .one (.list (.pair (.list (.int .i64)) (.pair (.list (.int .i64)) .unit)) l)), (16, .one (.int .i64 (l.length : Int))), (17, .one (.int .i64 (k : Int)))], L := [.vars 47 [.int .i64 n, .list (.pair (.list (.int .i64)) (.pair (.list (.int .i64)) .unit)) X], .vars 47 [.int .i64 0, .nils], .row (.pair (.list (.int .i64)) (.pair (.list (.int .i64)) .unit)) 60 v (XK X l k)] }) ?_ ?_
 ·exact ⟨_, _, aw [2, 4, 5, 6, 15, 16, 17], 0, 0, Nat.zero_le _, fun q hq => by omega, rfl, rfl⟩
 rintro n5 s5 ⟨k, v, hk, hq, rfl, rfl⟩
 refine Z fun _ k6 => ?_
 refine a9 hP hN rfl ?_
 (refine V rfl fun _ k0 => ?_; simp only [zO, zT, acs, reduceCtorEq, J, D, M, U, O, S]; (repeat refine an ?_); (try refine .inl ?_); apply k0; clear k0; simp only [zP, D])
 refine aa ?_
 apply k6; clear k6; refine kp [2, 4, 5, 6, 15, 16, 17, 18] ?_
 refine Z fun _ k7 => ?_
 refine cd (fun hc8 => ?_) (fun hc8 => ?_)
 ·(try simp only [zB, reduceCtorEq] at hc8)
  refine am ?_
  apply k7; clear k7; refine kp [2, 4, 5, 6, 15, 16, 17, 18] ?_
  refine Z fun _ k9 => ?_
  refine az ?_
  refine Z fun _ k10 => ?_
  obtain ⟨x1, x2, hgx⟩ : ∃ x1 x2, ∀ d, l.getD k d = (x1, (x2, ())) := ⟨_, _, cq (by omega)⟩
  have hXl := mE (X := X) (l := l) (k := k) (by omega); have hXs := mB (l := l) hs (k := k) (by omega); have hXb := rh hb (k := k) (by omega) hq
  have hlk : l.getD k aP = (x1, (x2, ())) := hgx _
  refine a9 hP hN rfl ?_
  iterate 4 (refine V rfl fun _ k0 => ?_; simp only [zO, zT, acs, reduceCtorEq, J, D, M, U, O, S, gt, ae, hgx]; (repeat refine an ?_); (try refine .inl ?_); apply k0; clear k0; simp only [zP, D])
  refine aa ?_
  apply k10; clear k10; refine kp [2, 4, 5, 6, 8, 15, 16, 17, 18] ?_
  refine Z fun _ k11 => ?_
  refine Z fun _ k12 => ?_
  refine a9 hP hN rfl ?_
  iterate 3 (refine V rfl fun _ k0 => ?_; simp only [zO, zT, acs, reduceCtorEq, J, D, M, U, O, S]; (repeat refine an ?_); (try refine .inl ?_); apply k0; clear k0; simp only [zP, D])
  refine V rfl fun _ k0 => ?_
  refine ar (h := ah (oV (x1, (x2, ())) n)) rfl rfl (by first | exact rfl | (simp only [ev, zP, J, D]; exact rfl)) (by simp only [zV, acs, reduceCtorEq, J, D, M, U, O, S]) ?_
  apply k0; clear k0; simp only [zP, D]
  (refine V rfl fun _ k0 => ?_; simp only [zO, zT, acs, reduceCtorEq, J, D, M, U, O, S]; (repeat refine an ?_); (try refine .inl ?_); apply k0; clear k0; simp only [zP, D])
  refine aa ?_
  apply k12; clear k12; refine kp [2, 4, 5, 6, 8, 9, 15, 16, 17, 18] ?_
  refine Z fun _ k13 => ?_
  refine a9 hP hN rfl ?_
  iterate 2 (refine V rfl fun _ k0 => ?_; simp only [zO, zT, acs, reduceCtorEq, J, D, M, U, O, S]; (repeat refine an ?_); (try refine .inl ?_); apply k0; clear k0; simp only [zP, D])
  refine aa ?_
  apply k13; clear k13; refine kp [2, 4, 5, 6, 8, 9, 15, 16, 17, 18, 26] ?_
  refine cd (fun hc14 => ?_) (fun hc14 => ?_)
  ·(try simp only [zB, reduceCtorEq] at hc14)
   have hpe : ¬ prO n (x1, (x2, ())) = 0 := hc14
   have hie : d4 n X l k = prO n (x1, (x2, ())) := by unfold d4; rw [hlk]; exact tD hpe
   obtain ⟨e1, e2⟩ := hD (n := n) (X := X) (l := l) (k := k) (by omega) hq (by rw [hie]; exact hpe)
   refine Z fun _ k15 => ?_
   refine a9 hP hN rfl ?_
   iterate 4 (refine V rfl fun _ k0 => ?_; simp only [zO, zT, acs, reduceCtorEq, J, D, M, U, O, S]; (repeat refine an ?_); (try refine .inl ?_); apply k0; clear k0; simp only [zP, D])
   refine aa ?_
   apply k15; clear k15; refine kp [2, 4, 5, 6, 8, 9, 15, 16, 17, 18, 26] ?_
   refine ak ?_
   refine ⟨nr, _, rfl, ?_⟩; simp only [zF, zP, J, D]
   refine VLE.of_eq ?_
   first
   | (rw [e1, e2, hie]; first | done | rfl)
   | (rw [e1, e2, htk]; first | done | rfl)
   | (rw [e1, e2]; first | done | rfl)
  (try simp only [zB, reduceCtorEq] at hc14)
  have hpz : prO n (x1, (x2, ())) = 0 := hc14
  have hpl : x1.length ≤ 1024 ∧ x2.length ≤ 1024 := nB hpz
  refine am ?_
  apply k11; clear k11; refine kp [2, 4, 5, 6, 8, 9, 15, 16, 17, 18, 26] ?_
  refine Z fun _ k16 => ?_
  obtain ⟨B, hB9⟩ : ∃ B, B = gl (XK X l k) (x1, (x2, ())) := ⟨_, rfl⟩
  rcases Bool.eq_false_or_eq_true (gl (XK X l k) (x1, (x2, ()))) with hnb | hnb
  ·skip
   refine a9 hP hN rfl ?_
   iterate 2 (refine V rfl fun _ k0 => ?_; simp only [zO, zT, acs, reduceCtorEq, J, D, M, U, O, S]; (repeat refine an ?_); (try refine .inl ?_); apply k0; clear k0; simp only [zP, D])
   refine V rfl fun _ k0 => ?_
   refine ar (h := tF n X v (XK X l k) (x1, (x2, ())) hXs (by omega) hXb ⟨by show x1.length ≤ 100000; omega, by show x2.length ≤ 100000; omega⟩ hnb) rfl rfl (by first | exact rfl | (simp only [ev, zP, J, D]; exact rfl)) (by simp only [zV, acs, reduceCtorEq, J, D, M, U, O, S]) ?_
   apply k0; clear k0; simp only [zP, D]
   iterate 5 (refine V rfl fun _ k0 => ?_; simp only [zO, zT, acs, reduceCtorEq, J, D, M, U, O, S]; (repeat refine an ?_); (try refine .inl ?_); apply k0; clear k0; simp only [zP, D])
   refine aa ?_
   apply k16; clear k16; refine kp [2, 4, 5, 6, 8, 9, 10, 11, 15, 16, 17, 18, 26] ?_
   refine Z fun _ k17 => ?_
   refine Z fun _ k18 => ?_
   refine a9 hP hN rfl ?_
   iterate 2 (refine V rfl fun _ k0 => ?_; simp only [zO, zT, acs, reduceCtorEq, J, D, M, U, O, S]; (repeat refine an ?_); (try refine .inl ?_); apply k0; clear k0; simp only [zP, D])
   refine aa ?_
   apply k18; clear k18; refine kp [2, 4, 5, 6, 8, 9, 10, 11, 15, 16, 17, 18, 26, 36] ?_
   refine cd (fun hc19 => ?_) (fun hc19 => ?_)
   ·(try simp only [zB, reduceCtorEq] at hc19)
    have hie : d4 n X l k = 13 := by unfold d4; rw [hlk]; exact sI hpz hnb
    obtain ⟨e1, e2⟩ := hD (n := n) (X := X) (l := l) (k := k) (by omega) hq (by rw [hie]; decide)
    refine Z fun _ k20 => ?_
    refine a9 hP hN rfl ?_
    iterate 4 (refine V rfl fun _ k0 => ?_; simp only [zO, zT, acs, reduceCtorEq, J, D, M, U, O, S]; (repeat refine an ?_); (try refine .inl ?_); apply k0; clear k0; simp only [zP, D])
    refine aa ?_
    apply k20; clear k20; refine kp [2, 4, 5, 6, 8, 9, 10, 11, 15, 16, 17, 18, 26, 36] ?_
    refine ak ?_
    refine ⟨nr, _, rfl, ?_⟩; simp only [zF, zP, J, D]
    refine VLE.of_eq ?_
    first
    | (rw [e1, e2, hie]; first | done | rfl)
    | (rw [e1, e2, htk]; first | done | rfl)
    | (rw [e1, e2]; first | done | rfl)
   · exfalso; (try simp only [zB, reduceCtorEq] at hc19); all_goals (first | (cases hc19; done) | omega | (simp at hc19; done) | (simp_all; done))
  ·skip
   refine a9 hP hN rfl ?_
   iterate 2 (refine V rfl fun _ k0 => ?_; simp only [zO, zT, acs, reduceCtorEq, J, D, M, U, O, S]; (repeat refine an ?_); (try refine .inl ?_); apply k0; clear k0; simp only [zP, D])
   refine V rfl fun _ k0 => ?_
   refine ar (h := tw n X v (XK X l k) (x1, (x2, ())) hXs (by omega) hXb ⟨by show x1.length ≤ 100000; omega, by show x2.length ≤ 100000; omega⟩ hnb) rfl rfl (by first | exact rfl | (simp only [ev, zP, J, D]; exact rfl)) (by simp only [zV, acs, reduceCtorEq, J, D, M, U, O, S]) ?_
   apply k0; clear k0; simp only [zP, D]
   iterate 5 (refine V rfl fun _ k0 => ?_; simp only [zO, zT, acs, reduceCtorEq, J, D, M, U, O, S]; (repeat refine an ?_); (try refine .inl ?_); apply k0; clear k0; simp only [zP, D])
   refine aa ?_
   apply k16; clear k16; refine kp [2, 4, 5, 6, 8, 9, 10, 11, 15, 16, 17, 18, 26] ?_
   refine Z fun _ k21 => ?_
   refine Z fun _ k22 => ?_
   refine a9 hP hN rfl ?_
   iterate 2 (refine V rfl fun _ k0 => ?_; simp only [zO, zT, acs, reduceCtorEq, J, D, M, U, O, S]; (repeat refine an ?_); (try refine .inl ?_); apply k0; clear k0; simp only [zP, D])
   refine aa ?_
   apply k22; clear k22; refine kp [2, 4, 5, 6, 8, 9, 10, 11, 15, 16, 17, 18, 26, 36] ?_
   refine cd (fun hc23 => ?_) (fun hc23 => ?_)
   · exfalso; (try simp only [zB, reduceCtorEq] at hc23); all_goals (first | (cases hc23; done) | omega | (simp at hc23; done) | (simp_all; done))
   (try simp only [zB, reduceCtorEq] at hc23)
   refine am ?_
   apply k21; clear k21; refine kp [2, 4, 5, 6, 8, 9, 10, 11, 15, 16, 17, 18, 26, 36] ?_
   refine a9 hP hN rfl ?_
   iterate 2 (refine V rfl fun _ k0 => ?_; simp only [zO, zT, acs, reduceCtorEq, J, D, M, U, O, S]; (repeat refine an ?_); (try refine .inl ?_); apply k0; clear k0; simp only [zP, D])
   refine aa ?_
   apply k9; clear k9; refine kp [2, 4, 5, 6, 8, 9, 10, 11, 15, 16, 17, 18, 26, 36] ?_
   refine kp [2, 4, 5, 6, 15, 16, 17] ?_
   refine aq (L1 := [_, _, _]) rfl (by rw [hB]; exact Nat.zero_le _) rfl rfl ?_
   refine a9 hP hN rfl ?_
   iterate 2 (refine V rfl fun _ k0 => ?_; simp only [zO, zT, acs, reduceCtorEq, J, D, M, U, O, S]; (repeat refine an ?_); (try refine .inl ?_); apply k0; clear k0; simp only [zP, D])
   refine aa ?_
   have hie : d4 n X l k = 0 := by unfold d4; rw [hlk]; exact rn hpz hnb
   refine ⟨_, _, ?_, aw [2, 4, 5, 6, 15, 16, 17], k + 1, adv v (XK X l k) (x1, (x2, ())), by omega, fun q hq2 => ?_, rfl, ?_⟩
   · omega
   · by_cases e : q = k
     · rw [e]; exact hie
     · exact hq q (by omega)
   · rw [fM (by omega), hlk]; rfl
 (try simp only [zB, reduceCtorEq] at hc8)
 refine aV ?_
 apply k3; clear k3; refine kp [2, 4, 5, 6, 15, 16, 17, 18] ?_
 refine Z fun _ k24 => ?_
 refine js 2 rfl ?_; simp only [aR, bf, zS, J, and_self, and_true, true_and, and_false, false_and, if_true, if_false, eq_self, reduceCtorEq, Nat.one_ne_zero, Nat.zero_ne_one]
 have hkl : k = l.length := by omega
 obtain ⟨e1, e2⟩ := mQ (n := n) (X := X) (l := l) (fun q hq2 => hq q (by omega))
 have htk : XK X l l.length = XK X l k := by rw [hkl]
 refine a9 hP hN rfl ?_
 iterate 6 (refine V rfl fun _ k0 => ?_; simp only [zO, zT, acs, reduceCtorEq, J, D, M, U, O, S]; (repeat refine an ?_); (try refine .inl ?_); apply k0; clear k0; simp only [zP, D])
 refine aa ?_
 apply k24; clear k24; refine kp [2, 4, 5, 6, 15, 16, 17, 18] ?_
 refine ak ?_
 refine ⟨nr, _, rfl, ?_⟩; simp only [zF, zP, J, D]
 refine VLE.of_eq ?_
 first
 | (rw [e1, e2, hie]; first | done | rfl)
 | (rw [e1, e2, htk]; first | done | rfl)
 | (rw [e1, e2]; first | done | rfl)
theorem tm (n : Int) (X : List TRC) (t : TRC) (hs : SRT X) (hb : LB 100000 X) (hl : X.length ≤ 8000) : aW Tryd.prog 44 [.agg [.int .i64 n, .list (.pair (.list (.int .i64)) (.pair (.list (.int .i64)) .unit)) X], .agg [.list (.int .i64) t.1, .list (.int .i64) t.2.1]] (.tup [.agg [.int .i64 n, .list (.pair (.list (.int .i64)) (.pair (.list (.int .i64)) .unit)) (jq n X [t])], .one (.int .i64 (gE n X [t]))]) := by
 refine aA Tryd.func44 rfl (by kernel_rfl) (Nat.le_of_ble_eq_true rfl) rfl fun C hP hN hB => ?_
 replace hN : C.N = 12 := hN
 simp only [aL, D]
 refine Z fun _ k1 => ?_
 refine a9 hP hN rfl ?_
 iterate 4 (refine V rfl fun _ k0 => ?_; simp only [zO, zT, acs, reduceCtorEq, J, D, M, U, O, S]; (repeat refine an ?_); (try refine .inl ?_); apply k0; clear k0; simp only [zP, D])
 refine aa ?_
 apply k1; clear k1; refine kp [0, 1, 2, 3, 4, 5] ?_
 refine Z fun _ k2 => ?_
 refine a9 hP hN rfl ?_
 iterate 3 (refine V rfl fun _ k0 => ?_; simp only [zO, zT, acs, reduceCtorEq, J, D, M, U, O, S]; (repeat refine an ?_); (try refine .inl ?_); apply k0; clear k0; simp only [zP, D])
 refine V rfl fun _ k0 => ?_
 refine ar (h := ah (tz n X [t] hs hb (by simp only [af, au]; omega))) rfl rfl (by first | exact rfl | (simp only [ev, zP, J, D]; exact rfl)) (by simp only [zV, acs, reduceCtorEq, J, D, M, U, O, S]) ?_
 apply k0; clear k0; simp only [zP, D]
 iterate 4 (refine V rfl fun _ k0 => ?_; simp only [zO, zT, acs, reduceCtorEq, J, D, M, U, O, S]; (repeat refine an ?_); (try refine .inl ?_); apply k0; clear k0; simp only [zP, D])
 refine aa ?_
 apply k2; clear k2; refine kp [0, 1, 2, 3, 4, 5] ?_
 refine ak ?_
 refine ⟨nr, _, rfl, ?_⟩; simp only [zF, zP, J, D]
 refine VLE.of_eq ?_
 rfl
set_option maxHeartbeats 1000000 in
theorem oA (n : Int) (X l : List TRC) (hs : SRT X) (hb : LB 100000 X) (hl : X.length + l.length ≤ 7000) : aW Tryd.prog 20 [.agg [.int .i64 n, .list (.pair (.list (.int .i64)) (.pair (.list (.int .i64)) .unit)) X], .one (.list (.pair (.list (.int .i64)) (.pair (.list (.int .i64)) .unit)) l)] (.tup [.agg [.int .i64 n, .list (.pair (.list (.int .i64)) (.pair (.list (.int .i64)) .unit)) (jq n X l)], .one (.int .i64 (jn (d4 n X l) l.length)), .one (.int .i64 (gE n X l))]) := by
 refine aA Tryd.func20 rfl (by kernel_rfl) (Nat.le_of_ble_eq_true rfl) rfl fun C hP hN hB => ?_
 replace hN : C.N = 34 := hN
 simp only [aL, D]
 refine Z fun _ k1 => ?_
 refine a9 hP hN rfl ?_
 iterate 4 (refine V rfl fun _ k0 => ?_; simp only [zO, zT, acs, reduceCtorEq, J, D, M, U, O, S]; (repeat refine an ?_); (try refine .inl ?_); apply k0; clear k0; simp only [zP, D])
 refine aa ?_
 apply k1; clear k1; refine kp [0, 1, 2, 4, 5, 6] ?_
 refine Z fun _ k2 => ?_
 refine a9 hP hN rfl ?_
 iterate 3 (refine V rfl fun _ k0 => ?_; simp only [zO, zT, acs, reduceCtorEq, J, D, M, U, O, S]; (repeat refine an ?_); (try refine .inl ?_); apply k0; clear k0; simp only [zP, D])
 refine aa ?_
 apply k2; clear k2; refine kp [0, 1, 2, 4, 5, 6, 7] ?_
 refine Z fun _ k3 => ?_
 refine Z fun _ k4 => ?_
 refine a9 hP hN rfl ?_
 iterate 3 (refine V rfl fun _ k0 => ?_; simp only [zO, zT, acs, reduceCtorEq, J, D, M, U, O, S]; (repeat refine an ?_); (try refine .inl ?_); apply k0; clear k0; simp only [zP, D])
 refine aa ?_
 apply k4; clear k4; refine kp [0, 1, 2, 4, 5, 6, 7, 13, 14, 15] ?_
 refine az ?_
 refine aX (fun n5 s5 => ∃ (k : Nat), (k ≤ l.length) ∧ (∀ q : Nat, q < k → d4 n X l q = 0) ∧ n5 = l.length - k ∧ s5 = { env := [(2, .one (.ptr 0 0 0 0)), (4, .one (.ptr 1 0 0 0)), (5, .one (.int .i64 0)), (6, .one (.int .i64 0)), (7, .one (.ptr 2 0 0 0)), (13, .one (.list (.pair (.list (.int .i64)) (.pair (.list (.int .i64)) .unit)) l)), (14, .one (.int .i64 (l.length : Int))), (15, .one (.int .i64 (k : Int)))], L := [.vars 47 [.int .i64 n, .list (.pair (.list (.int .i64)) (.pair (.list (.int .i64)) .unit)) X], .vars 47 [.int .i64 0, .nils], .vars 47 [.int .i64 n, .list (.pair (.list (.int .i64)) (.pair (.list (.int .i64)) .unit)) (XK X l k)]] }) ?_ ?_
 ·exact ⟨_, _, aw [2, 4, 5, 6, 7, 13, 14, 15], 0, Nat.zero_le _, fun q hq => by omega, rfl, rfl⟩
 rintro n5 s5 ⟨k, hk, hq, rfl, rfl⟩
 refine Z fun _ k6 => ?_
 refine a9 hP hN rfl ?_
 (refine V rfl fun _ k0 => ?_; simp only [zO, zT, acs, reduceCtorEq, J, D, M, U, O, S]; (repeat refine an ?_); (try refine .inl ?_); apply k0; clear k0; simp only [zP, D])
 refine aa ?_
 apply k6; clear k6; refine kp [2, 4, 5, 6, 7, 13, 14, 15, 16] ?_
 refine Z fun _ k7 => ?_
 refine cd (fun hc8 => ?_) (fun hc8 => ?_)
 ·(try simp only [zB, reduceCtorEq] at hc8)
  refine am ?_
  apply k7; clear k7; refine kp [2, 4, 5, 6, 7, 13, 14, 15, 16] ?_
  refine Z fun _ k9 => ?_
  refine az ?_
  refine Z fun _ k10 => ?_
  obtain ⟨x1, x2, hgx⟩ : ∃ x1 x2, ∀ d, l.getD k d = (x1, (x2, ())) := ⟨_, _, cq (by omega)⟩
  have hXl := mE (X := X) (l := l) (k := k) (by omega); have hXs := mB (l := l) hs (k := k) (by omega); have hXb := rh hb (k := k) (by omega) hq
  have hlk : l.getD k aP = (x1, (x2, ())) := hgx _
  obtain ⟨a1, a2⟩ := se n (XK X l k) (x1, (x2, ()))
  have hie : d4 n X l k = ec n (XK X l k) (x1, (x2, ())) := by unfold d4; rw [hlk]
  refine a9 hP hN rfl ?_
  iterate 6 (refine V rfl fun _ k0 => ?_; simp only [zO, zT, acs, reduceCtorEq, J, D, M, U, O, S, gt, ae, hgx]; (repeat refine an ?_); (try refine .inl ?_); apply k0; clear k0; simp only [zP, D])
  refine aa ?_
  apply k10; clear k10; refine kp [2, 4, 5, 6, 7, 8, 9, 13, 14, 15, 16] ?_
  refine Z fun _ k11 => ?_
  refine a9 hP hN rfl ?_
  iterate 2 (refine V rfl fun _ k0 => ?_; simp only [zO, zT, acs, reduceCtorEq, J, D, M, U, O, S]; (repeat refine an ?_); (try refine .inl ?_); apply k0; clear k0; simp only [zP, D])
  refine V rfl fun _ k0 => ?_
  refine ar (h := ah (tm n (XK X l k) (x1, (x2, ())) hXs hXb (by omega))) rfl rfl (by first | exact rfl | (simp only [ev, zP, J, D]; exact rfl)) (by simp only [zV, acs, reduceCtorEq, J, D, M, U, O, S]) ?_
  apply k0; clear k0; simp only [zP, D]
  iterate 6 (refine V rfl fun _ k0 => ?_; simp only [zO, zT, acs, reduceCtorEq, J, D, M, U, O, S]; (repeat refine an ?_); (try refine .inl ?_); apply k0; clear k0; simp only [zP, D])
  refine aa ?_
  apply k11; clear k11; refine kp [2, 4, 5, 6, 7, 8, 9, 10, 11, 13, 14, 15, 16] ?_
  refine Z fun _ k12 => ?_
  refine Z fun _ k13 => ?_
  refine a9 hP hN rfl ?_
  iterate 2 (refine V rfl fun _ k0 => ?_; simp only [zO, zT, acs, reduceCtorEq, J, D, M, U, O, S]; (repeat refine an ?_); (try refine .inl ?_); apply k0; clear k0; simp only [zP, D])
  refine aa ?_
  apply k13; clear k13; refine kp [2, 4, 5, 6, 7, 8, 9, 10, 11, 13, 14, 15, 16, 27] ?_
  refine cd (fun hc14 => ?_) (fun hc14 => ?_)
  ·(try simp only [zB, reduceCtorEq] at hc14)
   have hbd : ¬ ec n (XK X l k) (x1, (x2, ())) = 0 := by have h9 := hc14; first | (rw [a1] at h9; exact h9) | exact h9
   obtain ⟨e1, e2⟩ := hD (n := n) (X := X) (l := l) (k := k) (by omega) hq (by rw [hie]; exact hbd)
   have e3 := nh (f := (d4 n X l)) (k := k) hq (by rw [hie]; exact hbd) (n := l.length) (by omega)
   refine Z fun _ k15 => ?_
   refine a9 hP hN rfl ?_
   iterate 6 (refine V rfl fun _ k0 => ?_; simp only [zO, zT, acs, reduceCtorEq, J, D, M, U, O, S]; (repeat refine an ?_); (try refine .inl ?_); apply k0; clear k0; simp only [zP, D])
   refine aa ?_
   apply k15; clear k15; refine kp [2, 4, 5, 6, 7, 8, 9, 10, 11, 13, 14, 15, 16, 27] ?_
   refine ak ?_
   refine ⟨nr, _, rfl, ?_⟩; simp only [zF, zP, J, D]
   refine VLE.of_eq ?_
   first
   | (rw [e1, e2, e3, hie, a1]; first | done | rfl)
   | (rw [e1, e2, e3, hie, ← a1]; first | done | rfl)
   | (rw [e1, e2, e3, hie]; first | done | rfl)
   | (rw [e1, e2, e3, htk]; first | done | rfl)
  (try simp only [zB, reduceCtorEq] at hc14)
  have hgd : ec n (XK X l k) (x1, (x2, ())) = 0 := by have h9 := hc14; first | (rw [a1] at h9; exact h9) | exact h9
  refine am ?_
  apply k12; clear k12; refine kp [2, 4, 5, 6, 7, 8, 9, 10, 11, 13, 14, 15, 16, 27] ?_
  refine a9 hP hN rfl ?_
  iterate 2 (refine V rfl fun _ k0 => ?_; simp only [zO, zT, acs, reduceCtorEq, J, D, M, U, O, S]; (repeat refine an ?_); (try refine .inl ?_); apply k0; clear k0; simp only [zP, D])
  refine aa ?_
  apply k9; clear k9; refine kp [2, 4, 5, 6, 7, 8, 9, 10, 11, 13, 14, 15, 16, 27] ?_
  refine kp [2, 4, 5, 6, 7, 13, 14, 15] ?_
  refine aq (L1 := [_, _, _, _]) rfl (by rw [hB]; exact Nat.zero_le _) rfl rfl ?_
  refine aq (L1 := [_, _, _]) rfl (by rw [hB]; exact Nat.zero_le _) rfl rfl ?_
  refine a9 hP hN rfl ?_
  iterate 2 (refine V rfl fun _ k0 => ?_; simp only [zO, zT, acs, reduceCtorEq, J, D, M, U, O, S]; (repeat refine an ?_); (try refine .inl ?_); apply k0; clear k0; simp only [zP, D])
  refine aa ?_
  refine ⟨_, _, ?_, aw [2, 4, 5, 6, 7, 13, 14, 15], k + 1, by omega, fun q hq2 => ?_, rfl, ?_⟩
  · omega
  · by_cases e : q = k
    · rw [e, hie]; exact hgd
    · exact hq q (by omega)
  · rw [fM (by omega), hlk]
    first
    | (rw [a2, if_pos hgd]; first | done | rfl)
    | (rw [if_pos hgd]; first | done | rfl)
 (try simp only [zB, reduceCtorEq] at hc8)
 refine aV ?_
 apply k3; clear k3; refine kp [2, 4, 5, 6, 7, 13, 14, 15, 16] ?_
 refine Z fun _ k16 => ?_
 have hkl : k = l.length := by omega
 obtain ⟨e1, e2⟩ := mQ (n := n) (X := X) (l := l) (fun q hq2 => hq q (by omega))
 have e3 := p6 (f := (d4 n X l)) (n := l.length) (fun q hq2 => hq q (by omega))
 have htk : XK X l l.length = XK X l k := by rw [hkl]
 refine a9 hP hN rfl ?_
 iterate 4 (refine V rfl fun _ k0 => ?_; simp only [zO, zT, acs, reduceCtorEq, J, D, M, U, O, S]; (repeat refine an ?_); (try refine .inl ?_); apply k0; clear k0; simp only [zP, D])
 refine aa ?_
 apply k16; clear k16; refine kp [2, 4, 5, 6, 7, 13, 14, 15, 16] ?_
 refine ak ?_
 refine ⟨nr, _, rfl, ?_⟩; simp only [zF, zP, J, D]
 refine VLE.of_eq ?_
 first
 | (rw [e1, e2, e3, hie, a1]; first | done | rfl)
 | (rw [e1, e2, e3, hie, ← a1]; first | done | rfl)
 | (rw [e1, e2, e3, hie]; first | done | rfl)
 | (rw [e1, e2, e3, htk]; first | done | rfl)
theorem q9 (xs ys : List Int) : aW Tryd.prog 65 [.one (.list (.int .i64) xs), .one (.list (.int .i64) ys)] (.one (.bool (decide (xs = ys)))) := by
 refine aA Tryd.func65 rfl (by kernel_rfl) (Nat.le_of_ble_eq_true rfl) rfl fun C hP hN hB => ?_
 replace hN : C.N = 26 := hN
 simp only [aL, D]
 refine cO 0 rfl fun hf0 => ?_; simp only [lkp, if_true, if_false, reduceCtorEq, J, eq_self, Nat.one_ne_zero, Nat.zero_ne_one, eT, eu, eD, Fit, and_true, implies_true, true_and] at hf0
 refine Z fun _ k1 => ?_
 refine a9 hP hN rfl ?_
 (refine V rfl fun _ k0 => ?_; simp only [zO, zT, acs, reduceCtorEq, J, D, M, U, O, S]; (repeat refine an ?_); (try refine .inl ?_); apply k0; clear k0; simp only [zP, D])
 refine aa ?_
 apply k1; clear k1; refine kp [0, 1, 4] ?_
 refine Z fun _ k2 => ?_
 refine Z fun _ k3 => ?_
 refine a9 hP hN rfl ?_
 iterate 5 (refine V rfl fun _ k0 => ?_; simp only [zO, zT, acs, reduceCtorEq, J, D, M, U, O, S]; (repeat refine an ?_); (try refine .inl ?_); apply k0; clear k0; simp only [zP, D])
 refine aa ?_
 apply k3; clear k3; refine kp [0, 1, 4, 10] ?_
 refine cd (fun hc4 => ?_) (fun hc4 => ?_)
 ·(try simp only [zB, reduceCtorEq] at hc4)
  refine Z fun _ k5 => ?_
  refine a9 hP hN rfl ?_
  (refine V rfl fun _ k0 => ?_; simp only [zO, zT, acs, reduceCtorEq, J, D, M, U, O, S]; (repeat refine an ?_); (try refine .inl ?_); apply k0; clear k0; simp only [zP, D])
  refine aa ?_
  apply k5; clear k5; refine kp [0, 1, 4, 10] ?_
  refine ak ?_
  refine ⟨nr, _, rfl, ?_⟩; simp only [zF, zP, J, D]
  refine VLE.of_eq ?_
  first
  | (refine ch ?_; rintro rfl; first | exact absurd rfl ‹¬ _› | omega)
  | (refine cG ?_; have hk1 : k = xs.length := by omega
     have hk2 : k = ys.length := by omega
     rw [hk1, aE, ← hk1, hk2, aE] at hT; exact hT)
 (try simp only [zB, reduceCtorEq] at hc4)
 refine am ?_
 apply k2; clear k2; refine kp [0, 1, 4, 10] ?_
 refine Z fun _ k6 => ?_
 refine Z fun _ k7 => ?_
 refine a9 hP hN rfl ?_
 (refine V rfl fun _ k0 => ?_; simp only [zO, zT, acs, reduceCtorEq, J, D, M, U, O, S]; (repeat refine an ?_); (try refine .inl ?_); apply k0; clear k0; simp only [zP, D])
 refine aa ?_
 apply k7; clear k7; refine kp [0, 1, 4, 5, 10] ?_
 refine az ?_
 refine aX (fun n8 s8 => ∃ (k : Nat), (k ≤ xs.length) ∧ (xs.take k = ys.take k) ∧ n8 = xs.length - k ∧ s8 = { env := [(0, .one (.list (.int .i64) xs)), (1, .one (.list (.int .i64) ys)), (5, .one (.int .i64 (k : Int)))], L := [] }) ?_ ?_
 ·exact ⟨_, _, aw [0, 1, 5], 0, Nat.zero_le _, rfl, rfl, rfl⟩
 rintro n8 s8 ⟨k, hk, hT, rfl, rfl⟩
 refine Z fun _ k9 => ?_
 refine Z fun _ k10 => ?_
 refine a9 hP hN rfl ?_
 iterate 4 (refine V rfl fun _ k0 => ?_; simp only [zO, zT, acs, reduceCtorEq, J, D, M, U, O, S]; (repeat refine an ?_); (try refine .inl ?_); apply k0; clear k0; simp only [zP, D])
 refine aa ?_
 apply k10; clear k10; refine kp [0, 1, 5, 14] ?_
 refine cd (fun hc11 => ?_) (fun hc11 => ?_)
 ·(try simp only [zB, reduceCtorEq] at hc11)
  refine am ?_
  apply k9; clear k9; refine kp [0, 1, 5, 14] ?_
  refine Z fun _ k12 => ?_
  refine az ?_
  refine Z fun _ k13 => ?_
  refine bV hP hN Tryd.mixed rfl ?_
  iterate 9 (refine V rfl fun _ k0 => ?_; simp only [zO, zT, acs, reduceCtorEq, J, D, M, U, O, S]; (repeat refine an ?_); (try refine .inl ?_); apply k0; clear k0; simp only [zP, D])
  refine aa ?_
  refine ⟨by kernel_rfl, ?_⟩
  apply k13; clear k13; refine kp [0, 1, 5, 14, 25] ?_
  refine cd (fun hc14 => ?_) (fun hc14 => ?_)
  ·(try simp only [zB, reduceCtorEq] at hc14)
   refine Z fun _ k15 => ?_
   refine a9 hP hN rfl ?_
   (refine V rfl fun _ k0 => ?_; simp only [zO, zT, acs, reduceCtorEq, J, D, M, U, O, S]; (repeat refine an ?_); (try refine .inl ?_); apply k0; clear k0; simp only [zP, D])
   refine aa ?_
   apply k15; clear k15; refine kp [0, 1, 4, 5, 14, 25] ?_
   refine ak ?_
   refine ⟨nr, _, rfl, ?_⟩; simp only [zF, zP, J, D]
   refine VLE.of_eq ?_
   first
   | (refine ch ?_; rintro rfl; first | exact absurd rfl ‹¬ _› | omega)
   | (refine cG ?_; have hk1 : k = xs.length := by omega
      have hk2 : k = ys.length := by omega
      rw [hk1, aE, ← hk1, hk2, aE] at hT; exact hT)
  (try simp only [zB, reduceCtorEq] at hc14)
  refine am ?_
  apply k12; clear k12; refine kp [0, 1, 5, 14, 25] ?_
  refine a9 hP hN rfl ?_
  iterate 3 (refine V rfl fun _ k0 => ?_; simp only [zO, zT, acs, reduceCtorEq, J, D, M, U, O, S]; (repeat refine an ?_); (try refine .inl ?_); apply k0; clear k0; simp only [zP, D])
  refine aa ?_
  refine ⟨_, _, ?_, aw [0, 1, 5], k + 1, by omega, eH (d := 0) hT (by omega) (by omega) ?_, rfl, rfl⟩
  · omega
  · first | assumption | omega
 (try simp only [zB, reduceCtorEq] at hc11)
 refine aV ?_
 apply k6; clear k6; refine kp [0, 1, 5, 14] ?_
 refine Z fun _ k16 => ?_
 refine a9 hP hN rfl ?_
 (refine V rfl fun _ k0 => ?_; simp only [zO, zT, acs, reduceCtorEq, J, D, M, U, O, S]; (repeat refine an ?_); (try refine .inl ?_); apply k0; clear k0; simp only [zP, D])
 refine aa ?_
 apply k16; clear k16; refine kp [0, 1, 4, 5, 14] ?_
 refine ak ?_
 refine ⟨nr, _, rfl, ?_⟩; simp only [zF, zP, J, D]
 refine VLE.of_eq ?_
 first
 | (refine ch ?_; rintro rfl; first | exact absurd rfl ‹¬ _› | omega)
 | (refine cG ?_; have hk1 : k = xs.length := by omega
    have hk2 : k = ys.length := by omega
    rw [hk1, aE, ← hk1, hk2, aE] at hT; exact hT)
theorem nK (xs ys : List TRC) : aW Tryd.prog 46 [.one (.list (.pair (.list (.int .i64)) (.pair (.list (.int .i64)) .unit)) xs), .one (.list (.pair (.list (.int .i64)) (.pair (.list (.int .i64)) .unit)) ys)] (.one (.bool (decide (xs = ys)))) := by
 refine aA Tryd.func46 rfl (by kernel_rfl) (Nat.le_of_ble_eq_true rfl) rfl fun C hP hN hB => ?_
 replace hN : C.N = 43 := hN
 simp only [aL, D]
 refine cO 0 rfl fun hf0 => ?_; simp only [lkp, if_true, if_false, reduceCtorEq, J, eq_self, Nat.one_ne_zero, Nat.zero_ne_one, eT, eu, eD, Fit, and_true, implies_true, true_and] at hf0
 refine Z fun _ k1 => ?_
 refine a9 hP hN rfl ?_
 (refine V rfl fun _ k0 => ?_; simp only [zO, zT, acs, reduceCtorEq, J, D, M, U, O, S]; (repeat refine an ?_); (try refine .inl ?_); apply k0; clear k0; simp only [zP, D])
 refine aa ?_
 apply k1; clear k1; refine kp [0, 1, 4] ?_
 refine Z fun _ k2 => ?_
 refine Z fun _ k3 => ?_
 refine a9 hP hN rfl ?_
 iterate 5 (refine V rfl fun _ k0 => ?_; simp only [zO, zT, acs, reduceCtorEq, J, D, M, U, O, S]; (repeat refine an ?_); (try refine .inl ?_); apply k0; clear k0; simp only [zP, D])
 refine aa ?_
 apply k3; clear k3; refine kp [0, 1, 4, 10] ?_
 refine cd (fun hc4 => ?_) (fun hc4 => ?_)
 ·(try simp only [zB, reduceCtorEq] at hc4)
  refine Z fun _ k5 => ?_
  refine a9 hP hN rfl ?_
  (refine V rfl fun _ k0 => ?_; simp only [zO, zT, acs, reduceCtorEq, J, D, M, U, O, S]; (repeat refine an ?_); (try refine .inl ?_); apply k0; clear k0; simp only [zP, D])
  refine aa ?_
  apply k5; clear k5; refine kp [0, 1, 4, 10] ?_
  refine ak ?_
  refine ⟨nr, _, rfl, ?_⟩; simp only [zF, zP, J, D]
  refine VLE.of_eq ?_
  first
  | (refine ch ?_; rintro rfl; first | omega | (have h9 := (hgx aP).symm.trans (hgy aP); simp only [Prod.mk.injEq] at h9; simp_all; done))
  | (refine cG ?_; have hk1 : k = xs.length := by omega
     have hk2 : k = ys.length := by omega
     rw [hk1, aE, ← hk1, hk2, aE] at hT; exact hT)
 (try simp only [zB, reduceCtorEq] at hc4)
 refine am ?_
 apply k2; clear k2; refine kp [0, 1, 4, 10] ?_
 refine Z fun _ k6 => ?_
 refine Z fun _ k7 => ?_
 refine a9 hP hN rfl ?_
 (refine V rfl fun _ k0 => ?_; simp only [zO, zT, acs, reduceCtorEq, J, D, M, U, O, S]; (repeat refine an ?_); (try refine .inl ?_); apply k0; clear k0; simp only [zP, D])
 refine aa ?_
 apply k7; clear k7; refine kp [0, 1, 4, 5, 10] ?_
 refine az ?_
 refine aX (fun n8 s8 => ∃ (k : Nat), (k ≤ xs.length) ∧ (xs.take k = ys.take k) ∧ n8 = xs.length - k ∧ s8 = { env := [(0, .one (.list (.pair (.list (.int .i64)) (.pair (.list (.int .i64)) .unit)) xs)), (1, .one (.list (.pair (.list (.int .i64)) (.pair (.list (.int .i64)) .unit)) ys)), (5, .one (.int .i64 (k : Int)))], L := [] }) ?_ ?_
 ·exact ⟨_, _, aw [0, 1, 5], 0, Nat.zero_le _, rfl, rfl, rfl⟩
 rintro n8 s8 ⟨k, hk, hT, rfl, rfl⟩
 refine Z fun _ k9 => ?_
 refine Z fun _ k10 => ?_
 refine a9 hP hN rfl ?_
 iterate 4 (refine V rfl fun _ k0 => ?_; simp only [zO, zT, acs, reduceCtorEq, J, D, M, U, O, S]; (repeat refine an ?_); (try refine .inl ?_); apply k0; clear k0; simp only [zP, D])
 refine aa ?_
 apply k10; clear k10; refine kp [0, 1, 5, 14] ?_
 refine cd (fun hc11 => ?_) (fun hc11 => ?_)
 ·(try simp only [zB, reduceCtorEq] at hc11)
  refine am ?_
  apply k9; clear k9; refine kp [0, 1, 5, 14] ?_
  refine Z fun _ k12 => ?_
  refine az ?_
  refine Z fun _ k13 => ?_
  obtain ⟨x1, x2, hgx⟩ : ∃ x1 x2, ∀ d, xs.getD k d = (x1, (x2, ())) := ⟨_, _, cq (by omega)⟩
  obtain ⟨y1, y2, hgy⟩ : ∃ x1 x2, ∀ d, ys.getD k d = (x1, (x2, ())) := ⟨_, _, cq (by omega)⟩
  refine bV hP hN Tryd.mixed rfl ?_
  iterate 10 (refine V rfl fun _ k0 => ?_; simp only [zO, zT, acs, reduceCtorEq, J, D, M, U, O, S, gt, ae, hgx, hgy]; (repeat refine an ?_); (try refine .inl ?_); apply k0; clear k0; simp only [zP, D])
  refine V rfl fun _ k0 => ?_
  refine ar (h := ah (q9 x1 y1)) rfl rfl (by first | exact rfl | (simp only [ev, zP, J, D]; exact rfl)) (by simp only [zV, acs, reduceCtorEq, J, D, M, U, O, S, gt, ae, hgx, hgy]) ?_
  apply k0; clear k0; simp only [zP, D]
  iterate 2 (refine V rfl fun _ k0 => ?_; simp only [zO, zT, acs, reduceCtorEq, J, D, M, U, O, S, gt, ae, hgx, hgy]; (repeat refine an ?_); (try refine .inl ?_); apply k0; clear k0; simp only [zP, D])
  refine' aC (want := false) 12 rfl (m := 29) (by simp only [zP, J, D]; exact rfl) (by kernel_rfl) rfl rfl rfl rfl rfl (fun hg14 => ?a14) ?b14 ?c14
  case a14 =>
   have hq14 := hg14; (try simp only [zB, reduceCtorEq] at hg14); simp only [zE]
   iterate 10 (refine aO rfl fun _ k0 => ?_; simp only [zO, zT, acs, reduceCtorEq, J, D, M, U, O, S, gt, ae, hgx, hgy]; (repeat refine an ?_); (try refine .inl ?_); apply k0; clear k0; simp only [zP, D])
   refine aO rfl fun _ k0 => ?_
   refine ar (h := ah (q9 x2 y2)) rfl rfl (by first | exact rfl | (simp only [ev, zP, J, D]; exact rfl)) (by simp only [zV, acs, reduceCtorEq, J, D, M, U, O, S, gt, ae, hgx, hgy]) ?_
   apply k0; clear k0; simp only [zP, D]
   (refine aO rfl fun _ k0 => ?_; simp only [zO, zT, acs, reduceCtorEq, J, D, M, U, O, S, gt, ae, hgx, hgy]; (repeat refine an ?_); (try refine .inl ?_); apply k0; clear k0; simp only [zP, D])
   (refine V rfl fun _ k0 => ?_; simp only [zO, zT, acs, reduceCtorEq, J, D, M, U, O, S, gt, ae, hgx, hgy]; (repeat refine an ?_); (try refine .inl ?_); apply k0; clear k0; simp only [zP, D])
   refine aa ?_
   refine ⟨by simp only [zP, J, D]; exact rfl, rfl, ?_, rfl⟩; (repeat refine aB rfl ?_); exact aQ (by exact rfl) hq14
  case b14 => exact bg
  simp only [aN, aG]
  refine aa ?_
  refine ⟨by kernel_rfl, ?_⟩
  apply k13; clear k13; refine kp [0, 1, 5, 14, 42] ?_
  refine cd (fun hc15 => ?_) (fun hc15 => ?_)
  ·(try simp only [zB, reduceCtorEq] at hc15)
   refine Z fun _ k16 => ?_
   refine a9 hP hN rfl ?_
   (refine V rfl fun _ k0 => ?_; simp only [zO, zT, acs, reduceCtorEq, J, D, M, U, O, S]; (repeat refine an ?_); (try refine .inl ?_); apply k0; clear k0; simp only [zP, D])
   refine aa ?_
   apply k16; clear k16; refine kp [0, 1, 4, 5, 14, 42] ?_
   refine ak ?_
   refine ⟨nr, _, rfl, ?_⟩; simp only [zF, zP, J, D]
   refine VLE.of_eq ?_
   first
   | (refine ch ?_; rintro rfl; first | omega | (have h9 := (hgx aP).symm.trans (hgy aP); simp only [Prod.mk.injEq] at h9; simp_all; done))
   | (refine cG ?_; have hk1 : k = xs.length := by omega
      have hk2 : k = ys.length := by omega
      rw [hk1, aE, ← hk1, hk2, aE] at hT; exact hT)
  (try simp only [zB, reduceCtorEq] at hc15)
  refine am ?_
  apply k12; clear k12; refine kp [0, 1, 5, 14, 42] ?_
  refine a9 hP hN rfl ?_
  iterate 3 (refine V rfl fun _ k0 => ?_; simp only [zO, zT, acs, reduceCtorEq, J, D, M, U, O, S]; (repeat refine an ?_); (try refine .inl ?_); apply k0; clear k0; simp only [zP, D])
  refine aa ?_
  refine ⟨_, _, ?_, aw [0, 1, 5], k + 1, by omega, eH (d := aP) hT (by omega) (by omega) (by rw [hgx, hgy]; simp_all), rfl, rfl⟩
  omega
 (try simp only [zB, reduceCtorEq] at hc11)
 refine aV ?_
 apply k6; clear k6; refine kp [0, 1, 5, 14] ?_
 refine Z fun _ k17 => ?_
 refine a9 hP hN rfl ?_
 (refine V rfl fun _ k0 => ?_; simp only [zO, zT, acs, reduceCtorEq, J, D, M, U, O, S]; (repeat refine an ?_); (try refine .inl ?_); apply k0; clear k0; simp only [zP, D])
 refine aa ?_
 apply k17; clear k17; refine kp [0, 1, 4, 5, 14] ?_
 refine ak ?_
 refine ⟨nr, _, rfl, ?_⟩; simp only [zF, zP, J, D]
 refine VLE.of_eq ?_
 first
 | (refine ch ?_; rintro rfl; first | omega | (have h9 := (hgx aP).symm.trans (hgy aP); simp only [Prod.mk.injEq] at h9; simp_all; done))
 | (refine cG ?_; have hk1 : k = xs.length := by omega
    have hk2 : k = ys.length := by omega
    rw [hk1, aE, ← hk1, hk2, aE] at hT; exact hT)
theorem qA (n m : Int) (X Y : List TRC) : aW Tryd.prog 22 [.agg [.int .i64 n, .list (.pair (.list (.int .i64)) (.pair (.list (.int .i64)) .unit)) X], .agg [.int .i64 m, .list (.pair (.list (.int .i64)) (.pair (.list (.int .i64)) .unit)) Y]] (.one (.bool (decide (n = m) && decide (X = Y)))) := by
 refine aA Tryd.func22 rfl (by kernel_rfl) (Nat.le_of_ble_eq_true rfl) rfl fun C hP hN hB => ?_
 replace hN : C.N = 17 := hN
 simp only [aL, D]
 refine Z fun _ k1 => ?_
 refine a9 hP hN rfl ?_
 iterate 3 (refine V rfl fun _ k0 => ?_; simp only [zO, zT, acs, reduceCtorEq, J, D, M, U, O, S]; (repeat refine an ?_); (try refine .inl ?_); apply k0; clear k0; simp only [zP, D])
 refine aa ?_
 apply k1; clear k1; refine kp [0, 1, 2, 3, 4] ?_
 refine Z fun _ k2 => ?_
 refine a9 hP hN rfl ?_
 iterate 6 (refine V rfl fun _ k0 => ?_; simp only [zO, zT, acs, reduceCtorEq, J, D, M, U, O, S]; (repeat refine an ?_); (try refine .inl ?_); apply k0; clear k0; simp only [zP, D])
 refine' aC (want := true) 5 rfl (m := 10) (by simp only [zP, J, D]; exact rfl) (by kernel_rfl) rfl rfl rfl rfl rfl (fun hg3 => ?a3) ?b3 ?c3
 case a3 =>
  have hq3 := hg3; (try simp only [zB, reduceCtorEq] at hg3); simp only [zE]
  iterate 4 (refine aO rfl fun _ k0 => ?_; simp only [zO, zT, acs, reduceCtorEq, J, D, M, U, O, S]; (repeat refine an ?_); (try refine .inl ?_); apply k0; clear k0; simp only [zP, D])
  refine aO rfl fun _ k0 => ?_
  refine ar (h := ah (nK X Y)) rfl rfl (by first | exact rfl | (simp only [ev, zP, J, D]; exact rfl)) (by simp only [zV, acs, reduceCtorEq, J, D, M, U, O, S]) ?_
  apply k0; clear k0; simp only [zP, D]
  (refine V rfl fun _ k0 => ?_; simp only [zO, zT, acs, reduceCtorEq, J, D, M, U, O, S]; (repeat refine an ?_); (try refine .inl ?_); apply k0; clear k0; simp only [zP, D])
  refine aa ?_
  refine ⟨by simp only [zP, J, D]; exact rfl, rfl, ?_, rfl⟩; (repeat refine aB rfl ?_); exact aQ (by exact rfl) hq3
 case b3 => exact bg
 simp only [aN, aG]
 (refine V rfl fun _ k0 => ?_; simp only [zO, zT, acs, reduceCtorEq, J, D, M, U, O, S]; (repeat refine an ?_); (try refine .inl ?_); apply k0; clear k0; simp only [zP, D])
 refine aa ?_
 apply k2; clear k2; refine kp [0, 1, 2, 3, 4] ?_
 refine ak ?_
 refine ⟨nr, _, rfl, ?_⟩; simp only [zF, zP, J, D]
 refine VLE.of_eq ?_
 all_goals rfl
theorem kg {P : Program} {f : FuncId} {args args' : List AV} {r : AV} (h : aW P f args' r) (hl : aS VLE args args') : aW P f args r :=
  ⟨h.1, fun C L σ w vs hP hi ha => h.2 C L σ w vs hP hi (hl.map2 (fun _ _ _ hab hac => hab C L σ w _ hac) ha)⟩
theorem nG (l : List TRC) (hl : l.length ≤ 7000) : aW Tryd.prog 20 [.agg [.int .i64 2, .nils], .one (.list (.pair (.list (.int .i64)) (.pair (.list (.int .i64)) .unit)) l)] (.tup [.agg [.int .i64 2, .list (.pair (.list (.int .i64)) (.pair (.list (.int .i64)) .unit)) (jq 2 [] l)], .one (.int .i64 (jn (d4 2 [] l) l.length)), .one (.int .i64 (gE 2 [] l))]) :=
  kg (oA 2 [] l List.Pairwise.nil (fun u hu => by cases hu) (by simp; omega)) ⟨oe ⟨.refl _, bp rfl, trivial⟩, .of_eq rfl, trivial⟩
theorem oC (n m : Int) (X : List TRC) : aW Tryd.prog 22 [.agg [.int .i64 n, .list (.pair (.list (.int .i64)) (.pair (.list (.int .i64)) .unit)) X], .agg [.int .i64 m, .nils]] (.one (.bool (decide (n = m) && decide (X = [])))) :=
  kg (qA n m X []) ⟨.of_eq rfl, oe ⟨.refl _, bp rfl, trivial⟩, trivial⟩
theorem pc (l : List TRC) (n : Int) (hl : l.length ≤ 30000) (hBt : ∀ t, t ∈ l → t.1.length ≤ 3000) : aW Tryd.prog 17 [.one (.list (.pair (.list (.int .i64)) (.pair (.list (.int .i64)) .unit)) l), .one (.int .i64 n)] (.one (.list (.int .i64) (pH l n))) := by
 refine aA Tryd.func17 rfl (by kernel_rfl) (Nat.le_of_ble_eq_true rfl) rfl fun C hP hN hB => ?_
 replace hN : C.N = 47 := hN
 simp only [aL, D]
 refine Z fun _ k1 => ?_
 refine a9 hP hN rfl ?_
 (refine V rfl fun _ k0 => ?_; simp only [zO, zT, acs, reduceCtorEq, J, D, M, U, O, S]; (repeat refine an ?_); (try refine .inl ?_); apply k0; clear k0; simp only [zP, D])
 refine aa ?_
 apply k1; clear k1; refine kp [0, 1, 4] ?_
 refine Z fun _ k2 => ?_
 refine Z fun _ k3 => ?_
 refine a9 hP hN rfl ?_
 iterate 3 (refine V rfl fun _ k0 => ?_; simp only [zO, zT, acs, reduceCtorEq, J, D, M, U, O, S]; (repeat refine an ?_); (try refine .inl ?_); apply k0; clear k0; simp only [zP, D])
 refine' aC (want := false) 2 rfl (m := 12) (by simp only [zP, J, D]; exact rfl) (by kernel_rfl) rfl rfl rfl rfl rfl (fun hg4 => ?a4) ?b4 ?c4
 case a4 =>
  have hq4 := hg4; (try simp only [zB, reduceCtorEq] at hg4); simp only [zE]
  iterate 2 (refine aO rfl fun _ k0 => ?_; simp only [zO, zT, acs, reduceCtorEq, J, D, M, U, O, S]; (repeat refine an ?_); (try refine .inl ?_); apply k0; clear k0; simp only [zP, D])
  (refine V rfl fun _ k0 => ?_; simp only [zO, zT, acs, reduceCtorEq, J, D, M, U, O, S]; (repeat refine an ?_); (try refine .inl ?_); apply k0; clear k0; simp only [zP, D])
  refine aa ?_
  refine ⟨by simp only [zP, J, D]; exact rfl, rfl, ?_, rfl⟩; (repeat refine aB rfl ?_); exact aQ (by exact rfl) hq4
 case b4 => exact bg
 simp only [aN, aG]
 refine aa ?_
 apply k3; clear k3; refine kp [0, 1, 4, 15] ?_
 refine cd (fun hc5 => ?_) (fun hc5 => ?_)
 ·(try simp only [zB, reduceCtorEq] at hc5)
  have hno := hc5
  refine Z fun _ k6 => ?_
  refine a9 hP hN rfl ?_
  (refine V rfl fun _ k0 => ?_; simp only [zO, zT, acs, reduceCtorEq, J, D, M, U, O, S]; (repeat refine an ?_); (try refine .inl ?_); apply k0; clear k0; simp only [zP, D])
  refine aa ?_
  apply k6; clear k6; refine kp [0, 1, 4, 15] ?_
  refine ak ?_
  refine ⟨nr, _, rfl, ?_⟩; simp only [zF, zP, J, D]
  first
  | (rw [np (by omega)]; exact ik (bp rfl))
  | (rw [oh (by omega), show k = l.length by omega, aE]; exact VLE.of_eq rfl)
 (try simp only [zB, reduceCtorEq] at hc5)
 have hyes := hc5
 refine am ?_
 apply k2; clear k2; refine kp [0, 1, 4, 15] ?_
 refine Z fun _ k7 => ?_
 refine a9 hP hN rfl ?_
 (refine V rfl fun _ k0 => ?_; simp only [zO, zT, acs, reduceCtorEq, J, D, M, U, O, S]; (repeat refine an ?_); (try refine .inl ?_); apply k0; clear k0; simp only [zP, D])
 (refine V rfl fun _ k0 => ?_; simp only [zE, op1, ev, lkp, c9, be, dm, b9, Ty.size, Ty.dflt, reduceCtorEq, J, D, M, U, O, S, Tryd.el43, Tryd.td3, Tryd.td43]; (repeat refine an ?_); (try refine .inl ?_); apply k0; clear k0; simp only [zP, D])
 (refine V rfl fun _ k0 => ?_; simp only [zO, zT, acs, reduceCtorEq, J, D, M, U, O, S]; (repeat refine an ?_); (try refine .inl ?_); apply k0; clear k0; simp only [zP, D])
 refine aa ?_
 apply k7; clear k7; refine kp [0, 1, 4, 5, 15] ?_
 refine Z fun _ k8 => ?_
 refine Z fun _ k9 => ?_
 refine a9 hP hN rfl ?_
 iterate 3 (refine V rfl fun _ k0 => ?_; simp only [zO, zT, acs, reduceCtorEq, J, D, M, U, O, S]; (repeat refine an ?_); (try refine .inl ?_); apply k0; clear k0; simp only [zP, D])
 refine aa ?_
 apply k9; clear k9; refine kp [0, 1, 4, 5, 15, 18, 19, 20] ?_
 refine az ?_
 refine aX (fun n10 s10 => ∃ (k : Nat), (k ≤ l.length) ∧ n10 = l.length - k ∧ s10 = { env := [(1, .one (.int .i64 n)), (4, .one .nils), (5, .one (.row 0 0)), (18, .one (.list (.pair (.list (.int .i64)) (.pair (.list (.int .i64)) .unit)) l)), (19, .one (.int .i64 (l.length : Int))), (20, .one (.int .i64 (k : Int)))], L := [.row (.int .i64) 3 0 (dP n (List.replicate n.toNat 0) (l.take k))] }) ?_ ?_
 ·exact ⟨_, _, aw [1, 4, 5, 18, 19, 20], 0, Nat.zero_le _, rfl, rfl⟩
 rintro n10 s10 ⟨k, hk, rfl, rfl⟩
 refine Z fun _ k11 => ?_
 refine a9 hP hN rfl ?_
 (refine V rfl fun _ k0 => ?_; simp only [zO, zT, acs, reduceCtorEq, J, D, M, U, O, S]; (repeat refine an ?_); (try refine .inl ?_); apply k0; clear k0; simp only [zP, D])
 refine aa ?_
 apply k11; clear k11; refine kp [1, 4, 5, 18, 19, 20, 21] ?_
 refine Z fun _ k12 => ?_
 refine cd (fun hc13 => ?_) (fun hc13 => ?_)
 ·(try simp only [zB, reduceCtorEq] at hc13)
  refine am ?_
  apply k12; clear k12; refine kp [1, 4, 5, 18, 19, 20, 21] ?_
  refine Z fun _ k14 => ?_
  refine az ?_
  refine Z fun _ k15 => ?_
  obtain ⟨x1, x2, hgx⟩ : ∃ x1 x2, ∀ d, l.getD k d = (x1, (x2, ())) := ⟨_, _, cq (by omega)⟩
  have hx1 : x1.length ≤ 3000 := by have h9 := hBt (l.getD k aP) (od (by omega)); rw [hgx] at h9; exact h9
  refine a9 hP hN rfl ?_
  iterate 4 (refine V rfl fun _ k0 => ?_; simp only [zO, zT, acs, reduceCtorEq, J, D, M, U, O, S, gt, ae, hgx]; (repeat refine an ?_); (try refine .inl ?_); apply k0; clear k0; simp only [zP, D])
  refine aa ?_
  apply k15; clear k15; refine kp [1, 4, 5, 7, 18, 19, 20, 21] ?_
  refine Z fun _ k16 => ?_
  refine a9 hP hN rfl ?_
  iterate 4 (refine V rfl fun _ k0 => ?_; simp only [zO, zT, acs, reduceCtorEq, J, D, M, U, O, S]; (repeat refine an ?_); (try refine .inl ?_); apply k0; clear k0; simp only [zP, D])
  refine aa ?_
  apply k16; clear k16; refine kp [1, 4, 5, 7, 18, 19, 20, 21, 25, 26, 27] ?_
  refine az ?_
  refine aX (fun n17 s17 => ∃ (j : Nat), (j ≤ x1.length) ∧ n17 = x1.length - j ∧ s17 = { env := [(1, .one (.int .i64 n)), (4, .one .nils), (5, .one (.row 0 0)), (7, .one (.ptr 1 0 0 0)), (18, .one (.list (.pair (.list (.int .i64)) (.pair (.list (.int .i64)) .unit)) l)), (19, .one (.int .i64 (l.length : Int))), (20, .one (.int .i64 (k : Int))), (21, .one (.bool (decide ((k : Int) < l.length)))), (25, .one (.list (.int .i64) x1)), (26, .one (.int .i64 (x1.length : Int))), (27, .one (.int .i64 (j : Int)))], L := [.row (.int .i64) 3 0 (dh n (dP n (List.replicate n.toNat 0) (l.take k)) (x1.take j)), .vars 60 [.list (.int .i64) x1, .list (.int .i64) x2]] }) ?_ ?_
  ·exact ⟨_, _, aw [1, 4, 5, 7, 18, 19, 20, 21, 25, 26, 27], 0, Nat.zero_le _, rfl, rfl⟩
  rintro n17 s17 ⟨j, hj, rfl, rfl⟩
  refine Z fun _ k18 => ?_
  refine a9 hP hN rfl ?_
  (refine V rfl fun _ k0 => ?_; simp only [zO, zT, acs, reduceCtorEq, J, D, M, U, O, S]; (repeat refine an ?_); (try refine .inl ?_); apply k0; clear k0; simp only [zP, D])
  refine aa ?_
  apply k18; clear k18; refine kp [1, 4, 5, 7, 18, 19, 20, 21, 25, 26, 27, 28] ?_
  refine Z fun _ k19 => ?_
  refine cd (fun hc20 => ?_) (fun hc20 => ?_)
  ·(try simp only [zB, reduceCtorEq] at hc20)
   refine am ?_
   apply k19; clear k19; refine kp [1, 4, 5, 7, 18, 19, 20, 21, 25, 26, 27, 28] ?_
   refine Z fun _ k21 => ?_
   refine az ?_
   refine Z fun _ k22 => ?_
   refine a9 hP hN rfl ?_
   iterate 3 (refine V rfl fun _ k0 => ?_; simp only [zO, zT, acs, reduceCtorEq, J, D, M, U, O, S]; (repeat refine an ?_); (try refine .inl ?_); apply k0; clear k0; simp only [zP, D])
   refine aa ?_
   apply k22; clear k22; refine kp [1, 4, 5, 7, 9, 18, 19, 20, 21, 25, 26, 27, 28] ?_
   refine Z fun _ k23 => ?_
   refine a9 hP hN rfl ?_
   iterate 3 (refine V rfl fun _ k0 => ?_; simp only [zO, zT, acs, reduceCtorEq, J, D, M, U, O, S]; (repeat refine an ?_); (try refine .inl ?_); apply k0; clear k0; simp only [zP, D])
   refine' aC (want := true) 3 rfl (m := 33) (by simp only [zP, J, D]; exact rfl) (by kernel_rfl) rfl rfl rfl rfl rfl (fun hg24 => ?a24) ?b24 ?c24
   case a24 =>
    have hq24 := hg24; (try simp only [zB, reduceCtorEq] at hg24); simp only [zE]
    iterate 3 (refine aO rfl fun _ k0 => ?_; simp only [zO, zT, acs, reduceCtorEq, J, D, M, U, O, S]; (repeat refine an ?_); (try refine .inl ?_); apply k0; clear k0; simp only [zP, D])
    (refine V rfl fun _ k0 => ?_; simp only [zO, zT, acs, reduceCtorEq, J, D, M, U, O, S]; (repeat refine an ?_); (try refine .inl ?_); apply k0; clear k0; simp only [zP, D])
    refine aa ?_
    refine ⟨by simp only [zP, J, D]; exact rfl, rfl, ?_, rfl⟩; (repeat refine aB rfl ?_); exact aQ (by exact rfl) hq24
   case b24 => exact bg
   simp only [aN, aG]
   refine aa ?_
   apply k23; clear k23; refine kp [1, 4, 5, 7, 9, 18, 19, 20, 21, 25, 26, 27, 28, 37] ?_
   refine cd (fun hc25 => ?_) (fun hc25 => ?_)
   ·(try simp only [zB, reduceCtorEq] at hc25)
    have hin := hc25
    have hcl := iS n (x1.take j) (dP n (List.replicate n.toNat 0) (l.take k))
    have hcl2 := lQ n (l.take k) (List.replicate n.toNat 0)
    rw [bm] at hcl2
    have hbn := sl (n := n) (k := k) (j := j) (x := x1) hBt (by omega) (by omega) (x1.getD j 0).toNat
    refine a9 hP hN rfl ?_
    iterate 7 (refine V rfl fun _ k0 => ?_; simp only [zO, zT, acs, reduceCtorEq, J, D, M, U, O, S]; (repeat refine an ?_); (try refine .inl ?_); apply k0; clear k0; simp only [zP, D])
    refine aa ?_
    apply k21; clear k21; refine kp [1, 4, 5, 7, 9, 18, 19, 20, 21, 25, 26, 27, 28, 37] ?_
    refine a9 hP hN rfl ?_
    iterate 2 (refine V rfl fun _ k0 => ?_; simp only [zO, zT, acs, reduceCtorEq, J, D, M, U, O, S]; (repeat refine an ?_); (try refine .inl ?_); apply k0; clear k0; simp only [zP, D])
    refine aa ?_
    first
    | (refine ⟨_, _, ?_, aw [1, 4, 5, 7, 18, 19, 20, 21, 25, 26, 27], j + 1, by omega, rfl, ?_⟩
       · omega
       · rw [fd (by omega), if_pos hin]; rfl)
    | (refine ⟨_, _, ?_, aw [1, 4, 5, 7, 18, 19, 20, 21, 25, 26, 27], j + 1, by omega, rfl, ?_⟩
       · omega
       · rw [fd (by omega), if_neg (by omega)]; rfl)
   (try simp only [zB, reduceCtorEq] at hc25)
   have hout := hc25
   refine am ?_
   apply k21; clear k21; refine kp [1, 4, 5, 7, 9, 18, 19, 20, 21, 25, 26, 27, 28, 37] ?_
   refine a9 hP hN rfl ?_
   iterate 2 (refine V rfl fun _ k0 => ?_; simp only [zO, zT, acs, reduceCtorEq, J, D, M, U, O, S]; (repeat refine an ?_); (try refine .inl ?_); apply k0; clear k0; simp only [zP, D])
   refine aa ?_
   first
   | (refine ⟨_, _, ?_, aw [1, 4, 5, 7, 18, 19, 20, 21, 25, 26, 27], j + 1, by omega, rfl, ?_⟩
      · omega
      · rw [fd (by omega), if_pos hin]; rfl)
   | (refine ⟨_, _, ?_, aw [1, 4, 5, 7, 18, 19, 20, 21, 25, 26, 27], j + 1, by omega, rfl, ?_⟩
      · omega
      · rw [fd (by omega), if_neg (by omega)]; rfl)
  (try simp only [zB, reduceCtorEq] at hc20)
  refine aV ?_
  apply k14; clear k14; refine kp [1, 4, 5, 7, 18, 19, 20, 21, 25, 26, 27, 28] ?_
  refine kp [1, 4, 5, 18, 19, 20] ?_
  refine aq (L1 := [_]) rfl (by rw [hB]; exact Nat.zero_le _) rfl rfl ?_
  refine a9 hP hN rfl ?_
  iterate 2 (refine V rfl fun _ k0 => ?_; simp only [zO, zT, acs, reduceCtorEq, J, D, M, U, O, S]; (repeat refine an ?_); (try refine .inl ?_); apply k0; clear k0; simp only [zP, D])
  refine aa ?_
  refine ⟨_, _, ?_, aw [1, 4, 5, 18, 19, 20], k + 1, by omega, rfl, ?_⟩
  · omega
  · rw [oD (by omega) aP, hgx, show j = x1.length by omega, aE]; rfl
 (try simp only [zB, reduceCtorEq] at hc13)
 refine aV ?_
 apply k8; clear k8; refine kp [1, 4, 5, 18, 19, 20, 21] ?_
 refine Z fun _ k26 => ?_
 refine a9 hP hN rfl ?_
 iterate 2 (refine V rfl fun _ k0 => ?_; simp only [zO, zT, acs, reduceCtorEq, J, D, M, U, O, S]; (repeat refine an ?_); (try refine .inl ?_); apply k0; clear k0; simp only [zP, D])
 refine aa ?_
 apply k26; clear k26; refine kp [1, 4, 5, 18, 19, 20, 21] ?_
 refine ak ?_
 refine ⟨nr, _, rfl, ?_⟩; simp only [zF, zP, J, D]
 first
 | (rw [np (by omega)]; exact ik (bp rfl))
 | (rw [oh (by omega), show k = l.length by omega, aE]; exact VLE.of_eq rfl)
open Go.Shelf in
def Tryd.lays219_ren : Go.Shelf.Ren := ⟨fun | 219 => 68 | 217 => 82 | 225 => 83 | 224 => 84 | 267 => 85 | 266 => 98 | 314 => 99 | n => n, fun | 9 => 9 | 3 => 3 | 4 => 4 | 5 => 5 | 46 => 122 | 146 => 132 | 51 => 131 | n => n, fun | 1 => 0 | n => n⟩
theorem Tryd.lays219 : Go.Proofs.Lays.n219 Tryd.prog Tryd.lays219_ren := {
  mixed := by kernel_rfl,
  f217 := Tryd.func82.trans (congrArg some (by kernel_rfl)),
  f219 := Tryd.func68.trans (congrArg some (by kernel_rfl)),
  f224 := Tryd.func84.trans (congrArg some (by kernel_rfl)),
  f225 := Tryd.func83.trans (congrArg some (by kernel_rfl)),
  f266 := Tryd.func98.trans (congrArg some (by kernel_rfl)),
  f267 := Tryd.func85.trans (congrArg some (by kernel_rfl)),
  f314 := Tryd.func99.trans (congrArg some (by kernel_rfl)),
  t3 := Tryd.underlying3,
  a3 := Tryd.isAgg3,
  z3 := Tryd.sizeOf3,
  v3 := Tryd.zeroValue3,
  t4 := Tryd.underlying4,
  a4 := Tryd.isAgg4,
  z4 := Tryd.sizeOf4,
  v4 := Tryd.zeroValue4,
  t5 := Tryd.underlying5,
  a5 := Tryd.isAgg5,
  z5 := Tryd.sizeOf5,
  v5 := Tryd.zeroValue5,
  t9 := Tryd.underlying9,
  a9 := Tryd.isAgg9,
  z9 := Tryd.sizeOf9,
  v9 := Tryd.zeroValue9,
  t46 := Tryd.underlying122,
  a46 := Tryd.isAgg122,
  z46 := Tryd.sizeOf122,
  v46 := Tryd.zeroValue122,
  t51 := Tryd.underlying131,
  a51 := Tryd.isAgg131,
  z51 := Tryd.sizeOf131,
  v51 := Tryd.zeroValue131,
  t146 := Tryd.underlying132,
  a146 := Tryd.isAgg132,
  z146 := Tryd.sizeOf132,
  v146 := Tryd.zeroValue132,
  g1 := by kernel_rfl }
theorem qk (s : List UInt8) (c : UInt8) : aW Tryd.prog 68 [.one (.str s), .one (.str [c])] (.one (.int .i64 (Lib.indexByte s c))) := by
  refine ⟨⟨Tryd.f68, Tryd.func68, by kernel_rfl, by kernel_rfl⟩, fun C L σ w vs hP hi ha => ?_⟩
  match vs, ha with
  | [v1, v2], ⟨h1, h2, _⟩ =>
  have e1 : v1 = .string ⟨s.toArray⟩ := h1.2
  have e2 := h2.2
  subst e1
  simp only [RC0] at e2
  subst e2
  refine Calls.mono (Any.stringslite_Index_one Tryd.lays219 ⟨s.toArray⟩ c w) fun e w' hh => ?_
  obtain ⟨e1, e2⟩ := hh
  subst e2
  exact ⟨_, e1, MORE.refl _, rfl, rfl⟩
theorem qt (s : Bs) (c : UInt8) (hs : s.length ≤ 1000000000000) : aW Tryd.prog 48 [.one (.str s), .one (.str [c])] (.tup [.one (.str (ef s c)), .one (.str (d8 s c)), .one (.bool (o8 s c))]) := by
 refine aA Tryd.func48 rfl (by kernel_rfl) (Nat.le_of_ble_eq_true rfl) rfl fun C hP hN hB => ?_
 replace hN : C.N = 23 := hN
 simp only [aL, D]
 refine Z fun _ k1 => ?_
 refine a9 hP hN rfl ?_
 iterate 3 (refine V rfl fun _ k0 => ?_; simp only [zO, zT, acs, reduceCtorEq, J, D, M, U, O, S]; (repeat refine an ?_); (try refine .inl ?_); apply k0; clear k0; simp only [zP, D])
 refine aa ?_
 apply k1; clear k1; refine kp [0, 1, 4, 5, 6] ?_
 refine Z fun _ k2 => ?_
 refine Z fun _ k3 => ?_
 refine a9 hP hN rfl ?_
 iterate 2 (refine V rfl fun _ k0 => ?_; simp only [zO, zT, acs, reduceCtorEq, J, D, M, U, O, S]; (repeat refine an ?_); (try refine .inl ?_); apply k0; clear k0; simp only [zP, D])
 refine V rfl fun _ k0 => ?_
 refine ar (h := ah (qk s c)) rfl rfl (by first | exact rfl | (simp only [ev, zP, J, D]; exact rfl)) (by simp only [zV, acs, reduceCtorEq, J, D, M, U, O, S]) ?_
 apply k0; clear k0; simp only [zP, D]
 (refine V rfl fun _ k0 => ?_; simp only [zO, zT, acs, reduceCtorEq, J, D, M, U, O, S]; (repeat refine an ?_); (try refine .inl ?_); apply k0; clear k0; simp only [zP, D])
 refine aa ?_
 apply k3; clear k3; refine kp [0, 1, 4, 5, 6, 7] ?_
 refine Z fun _ k4 => ?_
 refine a9 hP hN rfl ?_
 iterate 2 (refine V rfl fun _ k0 => ?_; simp only [zO, zT, acs, reduceCtorEq, J, D, M, U, O, S]; (repeat refine an ?_); (try refine .inl ?_); apply k0; clear k0; simp only [zP, D])
 refine aa ?_
 apply k4; clear k4; refine kp [0, 1, 4, 5, 6, 7, 12] ?_
 refine cd (fun hc5 => ?_) (fun hc5 => ?_)
 ·(try simp only [zB, reduceCtorEq] at hc5)
  have hy := hc5
  refine Z fun _ k6 => ?_
  have hix := (gd (by omega : 0 ≤ Lib.indexByte s c)).1
  have hto : (Lib.indexByte s c + 1).toNat = (Lib.indexByte s c).toNat + 1 := by omega
  refine bV hP hN Tryd.mixed rfl ?_
  iterate 2 (refine V rfl fun _ k0 => ?_; simp only [zO, zT, acs, reduceCtorEq, J, D, M, U, O, S, af, au, aE, hto, Nat.zero_add, Int.natCast_one]; (repeat refine an ?_); (try refine .inl ?_); apply k0; clear k0; simp only [zP, D])
  (refine V rfl fun _ k0 => ?_; simp only [zE, op1, ev, lkp, c9, be, bU, bnd, Ty.size, cm, gJ, fU, bJ, ci, dn, Nat.div_one, cW, cD, b9, dite_true, dA, bj, cB, cS, cp, d6, reduceCtorEq, J, D, M, U, O, S, Tryd.td3, Tryd.td4, Tryd.td9, af, au, aE, hto, Nat.zero_add, Int.natCast_one]; (repeat refine an ?_); (try refine .inl ?_); apply k0; clear k0; simp only [zP, D])
  iterate 5 (refine V rfl fun _ k0 => ?_; simp only [zO, zT, acs, reduceCtorEq, J, D, M, U, O, S, af, au, aE, hto, Nat.zero_add, Int.natCast_one]; (repeat refine an ?_); (try refine .inl ?_); apply k0; clear k0; simp only [zP, D])
  (refine V rfl fun _ k0 => ?_; simp only [zE, op1, ev, lkp, c9, be, bU, bnd, Ty.size, cm, gJ, fU, bJ, ci, dn, Nat.div_one, cW, cD, b9, dite_true, dA, bj, cB, cS, cp, d6, reduceCtorEq, J, D, M, U, O, S, Tryd.td3, Tryd.td4, Tryd.td9, af, au, aE, hto, Nat.zero_add, Int.natCast_one]; (repeat refine an ?_); (try refine .inl ?_); apply k0; clear k0; simp only [zP, D])
  iterate 3 (refine V rfl fun _ k0 => ?_; simp only [zO, zT, acs, reduceCtorEq, J, D, M, U, O, S, af, au, aE, hto, Nat.zero_add, Int.natCast_one]; (repeat refine an ?_); (try refine .inl ?_); apply k0; clear k0; simp only [zP, D])
  refine aa ?_
  refine ⟨by kernel_rfl, ?_⟩
  apply k6; clear k6; refine kp [0, 1, 4, 5, 6, 7, 12] ?_
  refine ak ?_
  refine ⟨nr, _, rfl, ?_⟩; simp only [zF, zP, J, D]
  refine VLE.of_eq ?_
  first
  | (obtain ⟨e1, e2, e3⟩ := mW (s := s) (c := c) (by omega); rw [e1, e2, e3]; done)
  | (obtain ⟨e1, e2, e3⟩ := pp (s := s) (c := c) (by omega); rw [e1, e2, e3]; done)
 (try simp only [zB, reduceCtorEq] at hc5)
 have hn := hc5
 refine am ?_
 apply k2; clear k2; refine kp [0, 1, 4, 5, 6, 7, 12] ?_
 refine Z fun _ k7 => ?_
 refine a9 hP hN rfl ?_
 iterate 4 (refine V rfl fun _ k0 => ?_; simp only [zO, zT, acs, reduceCtorEq, J, D, M, U, O, S]; (repeat refine an ?_); (try refine .inl ?_); apply k0; clear k0; simp only [zP, D])
 refine aa ?_
 apply k7; clear k7; refine kp [0, 1, 4, 5, 6, 7, 12] ?_
 refine ak ?_
 refine ⟨nr, _, rfl, ?_⟩; simp only [zF, zP, J, D]
 refine VLE.of_eq ?_
 first
 | (obtain ⟨e1, e2, e3⟩ := mW (s := s) (c := c) (by omega); rw [e1, e2, e3]; done)
 | (obtain ⟨e1, e2, e3⟩ := pp (s := s) (c := c) (by omega); rw [e1, e2, e3]; done)
theorem pz (s : Bs) (c : UInt8) (hs : s.length ≤ 1000000000000) : aW Tryd.prog 26 [.one (.str s), .one (.str [c])] (.tup [.one (.str (ef s c)), .one (.str (d8 s c)), .one (.bool (o8 s c))]) := by
 refine aA Tryd.func26 rfl (by kernel_rfl) (Nat.le_of_ble_eq_true rfl) rfl fun C hP hN hB => ?_
 replace hN : C.N = 13 := hN
 simp only [aL, D]
 refine Z fun _ k1 => ?_
 refine a9 hP hN rfl ?_
 iterate 3 (refine V rfl fun _ k0 => ?_; simp only [zO, zT, acs, reduceCtorEq, J, D, M, U, O, S]; (repeat refine an ?_); (try refine .inl ?_); apply k0; clear k0; simp only [zP, D])
 refine aa ?_
 apply k1; clear k1; refine kp [0, 1, 4, 5, 6] ?_
 refine Z fun _ k2 => ?_
 refine a9 hP hN rfl ?_
 iterate 2 (refine V rfl fun _ k0 => ?_; simp only [zO, zT, acs, reduceCtorEq, J, D, M, U, O, S]; (repeat refine an ?_); (try refine .inl ?_); apply k0; clear k0; simp only [zP, D])
 refine V rfl fun _ k0 => ?_
 refine ar (h := ah (qt s c hs)) rfl rfl (by first | exact rfl | (simp only [ev, zP, J, D]; exact rfl)) (by simp only [zV, acs, reduceCtorEq, J, D, M, U, O, S]) ?_
 apply k0; clear k0; simp only [zP, D]
 iterate 6 (refine V rfl fun _ k0 => ?_; simp only [zO, zT, acs, reduceCtorEq, J, D, M, U, O, S]; (repeat refine an ?_); (try refine .inl ?_); apply k0; clear k0; simp only [zP, D])
 refine aa ?_
 apply k2; clear k2; refine kp [0, 1, 4, 5, 6] ?_
 refine ak ?_
 refine ⟨nr, _, rfl, ?_⟩; simp only [zF, zP, J, D]
 refine VLE.of_eq ?_
 rfl
theorem qx (s p : Bs) (hs : s.length ≤ 9223372036854775807) : aW Tryd.prog 49 [.one (.str s), .one (.str p)] (.one (.bool (du s p))) := by
 refine aA Tryd.func49 rfl (by kernel_rfl) (Nat.le_of_ble_eq_true rfl) rfl fun C hP hN hB => ?_
 replace hN : C.N = 21 := hN
 simp only [aL, D]
 refine Z fun _ k1 => ?_
 refine a9 hP hN rfl ?_
 (refine V rfl fun _ k0 => ?_; simp only [zO, zT, acs, reduceCtorEq, J, D, M, U, O, S]; (repeat refine an ?_); (try refine .inl ?_); apply k0; clear k0; simp only [zP, D])
 refine aa ?_
 apply k1; clear k1; refine kp [0, 1, 4] ?_
 refine Z fun _ k2 => ?_
 refine a9 hP hN rfl ?_
 iterate 6 (refine V rfl fun _ k0 => ?_; simp only [zO, zT, acs, reduceCtorEq, J, D, M, U, O, S]; (repeat refine an ?_); (try refine .inl ?_); apply k0; clear k0; simp only [zP, D])
 refine' aC (want := true) 9 rfl (m := 10) (by simp only [zP, J, D]; exact rfl) (by kernel_rfl) rfl rfl rfl rfl rfl (fun hg3 => ?a3) ?b3 ?c3
 case a3 =>
  have hq3 := hg3; (try simp only [zB, reduceCtorEq] at hg3); simp only [zE]
  iterate 6 (refine aO rfl fun _ k0 => ?_; simp only [zO, zT, acs, reduceCtorEq, J, D, M, U, O, S]; (repeat refine an ?_); (try refine .inl ?_); apply k0; clear k0; simp only [zP, D])
  (refine aO rfl fun _ k0 => ?_; simp only [zE, op1, ev, lkp, c9, be, bU, bnd, Ty.size, reduceCtorEq, J, D, M, U, O, S, Tryd.td9]; (repeat refine an ?_); (try refine .inl ?_); apply k0; clear k0; simp only [zP, D])
  iterate 2 (refine aO rfl fun _ k0 => ?_; simp only [zO, zT, acs, reduceCtorEq, J, D, M, U, O, S]; (repeat refine an ?_); (try refine .inl ?_); apply k0; clear k0; simp only [zP, D])
  (refine V rfl fun _ k0 => ?_; simp only [zO, zT, acs, reduceCtorEq, J, D, M, U, O, S]; (repeat refine an ?_); (try refine .inl ?_); apply k0; clear k0; simp only [zP, D])
  refine aa ?_
  refine ⟨by simp only [zP, J, D]; exact rfl, rfl, ?_, rfl⟩; (repeat refine aB rfl ?_); exact aQ (by exact rfl) hq3
 case b3 => exact bg
 simp only [aN, aG]
 (refine V rfl fun _ k0 => ?_; simp only [zO, zT, acs, reduceCtorEq, J, D, M, U, O, S]; (repeat refine an ?_); (try refine .inl ?_); apply k0; clear k0; simp only [zP, D])
 refine aa ?_
 apply k2; clear k2; refine kp [0, 1, 4] ?_
 refine ak ?_
 refine ⟨nr, _, rfl, ?_⟩; simp only [zF, zP, J, D]
 refine VLE.of_eq ?_
 have e : decide ((p.length : Int) ≤ s.length) = decide (p.length ≤ s.length) := decide_eq_decide.2 Int.ofNat_le
 rw [e, aE, Int.toNat_sub]; rfl
theorem sn (s p : Bs) (hs : s.length ≤ 9223372036854775807) : aW Tryd.prog 27 [.one (.str s), .one (.str p)] (.one (.bool (du s p))) := by
 refine aA Tryd.func27 rfl (by kernel_rfl) (Nat.le_of_ble_eq_true rfl) rfl fun C hP hN hB => ?_
 replace hN : C.N = 8 := hN
 simp only [aL, D]
 refine Z fun _ k1 => ?_
 refine a9 hP hN rfl ?_
 (refine V rfl fun _ k0 => ?_; simp only [zO, zT, acs, reduceCtorEq, J, D, M, U, O, S]; (repeat refine an ?_); (try refine .inl ?_); apply k0; clear k0; simp only [zP, D])
 refine aa ?_
 apply k1; clear k1; refine kp [0, 1, 4] ?_
 refine Z fun _ k2 => ?_
 refine a9 hP hN rfl ?_
 iterate 2 (refine V rfl fun _ k0 => ?_; simp only [zO, zT, acs, reduceCtorEq, J, D, M, U, O, S]; (repeat refine an ?_); (try refine .inl ?_); apply k0; clear k0; simp only [zP, D])
 refine V rfl fun _ k0 => ?_
 refine ar (h := ah (qx s p hs)) rfl rfl (by first | exact rfl | (simp only [ev, zP, J, D]; exact rfl)) (by simp only [zV, acs, reduceCtorEq, J, D, M, U, O, S]) ?_
 apply k0; clear k0; simp only [zP, D]
 (refine V rfl fun _ k0 => ?_; simp only [zO, zT, acs, reduceCtorEq, J, D, M, U, O, S]; (repeat refine an ?_); (try refine .inl ?_); apply k0; clear k0; simp only [zP, D])
 refine aa ?_
 apply k2; clear k2; refine kp [0, 1, 4] ?_
 refine ak ?_
 refine ⟨nr, _, rfl, ?_⟩; simp only [zF, zP, J, D]
 refine VLE.of_eq ?_
 rfl
theorem tJ (s : Bs) : aW Tryd.prog 66 [.one (.str s)] (.one (.bool (ck s))) := by
 refine aA Tryd.func66 rfl (by kernel_rfl) (Nat.le_of_ble_eq_true rfl) rfl fun C hP hN hB => ?_
 replace hN : C.N = 55 := hN
 simp only [aL, D]
 refine Z fun _ k1 => ?_
 refine a9 hP hN rfl ?_
 (refine V rfl fun _ k0 => ?_; simp only [zO, zT, acs, reduceCtorEq, J, D, M, U, O, S]; (repeat refine an ?_); (try refine .inl ?_); apply k0; clear k0; simp only [zP, D])
 refine aa ?_
 apply k1; clear k1; refine kp [0, 2] ?_
 refine Z fun _ k2 => ?_
 refine Z fun _ k3 => ?_
 refine a9 hP hN rfl ?_
 (refine V rfl fun _ k0 => ?_; simp only [zO, zT, acs, reduceCtorEq, J, D, M, U, O, S]; (repeat refine an ?_); (try refine .inl ?_); apply k0; clear k0; simp only [zP, D])
 (refine V rfl fun _ k0 => ?_; simp only [zE, op1, ev, lkp, c9, be, kC, reduceCtorEq, J, D, M, U, O, S, Tryd.td9]; (repeat refine an ?_); (try refine .inl ?_); apply k0; clear k0; simp only [zP, D])
 refine aa ?_
 apply k3; clear k3; refine kp [0, 2, 7] ?_
 refine az ?_
 refine aX (fun n4 s4 => ∃ (k : Nat), (k ≤ s.length) ∧ (∀ j, j < k → okI (bt s j)) ∧ n4 = s.length - k ∧ s4 = { env := [(0, .one (.str s)), (2, .one (.bool false)), (7, .one (.ptr 0 0 0 0))], L := [.itr s k] }) ?_ ?_
 ·exact ⟨_, _, aw [0, 2, 7], 0, Nat.zero_le _, fun q hq => by omega, rfl, rfl⟩
 rintro n4 s4 ⟨k, hk, hI, rfl, rfl⟩
 refine Z fun _ k5 => ?_
 refine a9 hP hN rfl ?_
 (refine V rfl fun _ k0 => ?_; simp only [zE, op1, ev, lkp, c9, be, mn, eo, reduceCtorEq, J, D, M, U, O, S, Tryd.td4]; (repeat refine an ?_); (try refine .inl ?_); apply k0; clear k0; simp only [zP, D])
 (refine V rfl fun _ k0 => ?_; simp only [zO, zT, acs, reduceCtorEq, J, D, M, U, O, S]; (repeat refine an ?_); (try refine .inl ?_); apply k0; clear k0; simp only [zP, D])
 refine aa ?_
 apply k5; clear k5; refine kp [0, 2, 7, 8, 9] ?_
 refine Z fun _ k6 => ?_
 refine cd (fun hc7 => ?_) (fun hc7 => ?_)
 ·(try simp only [zB, reduceCtorEq] at hc7)
  have hpos : k < s.length := hc7
  refine am ?_
  apply k6; clear k6; refine kp [0, 2, 7, 8, 9] ?_
  refine az ?_
  refine Z fun _ k8 => ?_
  refine a9 hP hN rfl ?_
  iterate 2 (refine V rfl fun _ k0 => ?_; simp only [zO, zT, acs, reduceCtorEq, J, D, M, U, O, S, lj, hpos, if_true]; (repeat refine an ?_); (try refine .inl ?_); apply k0; clear k0; simp only [zP, D])
  refine aa ?_
  apply k8; clear k8; refine kp [0, 2, 4, 7, 8, 9] ?_
  refine Z fun _ k9 => ?_
  refine a9 hP hN rfl ?_
  iterate 3 (refine V rfl fun _ k0 => ?_; simp only [zO, zT, acs, reduceCtorEq, J, D, M, U, O, S]; (repeat refine an ?_); (try refine .inl ?_); apply k0; clear k0; simp only [zP, D])
  refine' aC (want := true) 2 rfl (m := 13) (by simp only [zP, J, D]; exact rfl) (by kernel_rfl) rfl rfl rfl rfl rfl (fun hg10 => ?a10) ?b10 ?c10
  case a10 =>
   have hq10 := hg10; (try simp only [zB, reduceCtorEq] at hg10); simp only [zE]
   iterate 2 (refine aO rfl fun _ k0 => ?_; simp only [zO, zT, acs, reduceCtorEq, J, D, M, U, O, S]; (repeat refine an ?_); (try refine .inl ?_); apply k0; clear k0; simp only [zP, D])
   (refine V rfl fun _ k0 => ?_; simp only [zO, zT, acs, reduceCtorEq, J, D, M, U, O, S]; (repeat refine an ?_); (try refine .inl ?_); apply k0; clear k0; simp only [zP, D])
   refine aa ?_
   refine ⟨by simp only [zP, J, D]; exact rfl, rfl, ?_, rfl⟩; (repeat refine aB rfl ?_); exact aQ (by exact rfl) hq10
  case b10 => exact bg
  simp only [aN, aG]
  (refine V rfl fun _ k0 => ?_; simp only [zO, zT, acs, reduceCtorEq, J, D, M, U, O, S]; (repeat refine an ?_); (try refine .inl ?_); apply k0; clear k0; simp only [zP, D])
  refine' aC (want := false) 6 rfl (m := 17) (by simp only [zP, J, D]; exact rfl) (by kernel_rfl) rfl rfl rfl rfl rfl (fun hg11 => ?a11) ?b11 ?c11
  case a11 =>
   have hq11 := hg11; (try simp only [zB, reduceCtorEq] at hg11); simp only [zE]
   iterate 3 (refine aO rfl fun _ k0 => ?_; simp only [zO, zT, acs, reduceCtorEq, J, D, M, U, O, S]; (repeat refine an ?_); (try refine .inl ?_); apply k0; clear k0; simp only [zP, D])
   refine' aC (want := true) 2 rfl (m := 20) (by simp only [zP, J, D]; exact rfl) (by kernel_rfl) rfl rfl rfl rfl rfl (fun hg12 => ?a12) ?b12 ?c12
   case a12 =>
    have hq12 := hg12; (try simp only [zB, reduceCtorEq] at hg12); simp only [zE]
    iterate 3 (refine aO rfl fun _ k0 => ?_; simp only [zO, zT, acs, reduceCtorEq, J, D, M, U, O, S]; (repeat refine an ?_); (try refine .inl ?_); apply k0; clear k0; simp only [zP, D])
    refine aa ?_
    refine ⟨by simp only [zP, J, D]; exact rfl, rfl, ?_, rfl⟩; (repeat refine aB rfl ?_); exact aQ (by exact rfl) hq12
   case b12 => exact bg
   simp only [aN, aG]
   (refine V rfl fun _ k0 => ?_; simp only [zO, zT, acs, reduceCtorEq, J, D, M, U, O, S]; (repeat refine an ?_); (try refine .inl ?_); apply k0; clear k0; simp only [zP, D])
   refine aa ?_
   refine ⟨by simp only [zP, J, D]; exact rfl, rfl, ?_, rfl⟩; (repeat refine aB rfl ?_); exact aQ (by exact rfl) hq11
  case b11 => exact bg
  simp only [aN, aG]
  (refine V rfl fun _ k0 => ?_; simp only [zO, zT, acs, reduceCtorEq, J, D, M, U, O, S]; (repeat refine an ?_); (try refine .inl ?_); apply k0; clear k0; simp only [zP, D])
  refine' aC (want := false) 6 rfl (m := 25) (by simp only [zP, J, D]; exact rfl) (by kernel_rfl) rfl rfl rfl rfl rfl (fun hg13 => ?a13) ?b13 ?c13
  case a13 =>
   have hq13 := hg13; (try simp only [zB, reduceCtorEq] at hg13); simp only [zE]
   iterate 3 (refine aO rfl fun _ k0 => ?_; simp only [zO, zT, acs, reduceCtorEq, J, D, M, U, O, S]; (repeat refine an ?_); (try refine .inl ?_); apply k0; clear k0; simp only [zP, D])
   refine' aC (want := true) 2 rfl (m := 28) (by simp only [zP, J, D]; exact rfl) (by kernel_rfl) rfl rfl rfl rfl rfl (fun hg14 => ?a14) ?b14 ?c14
   case a14 =>
    have hq14 := hg14; (try simp only [zB, reduceCtorEq] at hg14); simp only [zE]
    iterate 3 (refine aO rfl fun _ k0 => ?_; simp only [zO, zT, acs, reduceCtorEq, J, D, M, U, O, S]; (repeat refine an ?_); (try refine .inl ?_); apply k0; clear k0; simp only [zP, D])
    refine aa ?_
    refine ⟨by simp only [zP, J, D]; exact rfl, rfl, ?_, rfl⟩; (repeat refine aB rfl ?_); exact aQ (by exact rfl) hq14
   case b14 => exact bg
   simp only [aN, aG]
   (refine V rfl fun _ k0 => ?_; simp only [zO, zT, acs, reduceCtorEq, J, D, M, U, O, S]; (repeat refine an ?_); (try refine .inl ?_); apply k0; clear k0; simp only [zP, D])
   refine aa ?_
   refine ⟨by simp only [zP, J, D]; exact rfl, rfl, ?_, rfl⟩; (repeat refine aB rfl ?_); exact aQ (by exact rfl) hq13
  case b13 => exact bg
  simp only [aN, aG]
  (refine V rfl fun _ k0 => ?_; simp only [zO, zT, acs, reduceCtorEq, J, D, M, U, O, S]; (repeat refine an ?_); (try refine .inl ?_); apply k0; clear k0; simp only [zP, D])
  refine aa ?_
  apply k9; clear k9; refine kp [0, 2, 4, 5, 7, 8, 9] ?_
  refine Z fun _ k15 => ?_
  refine a9 hP hN rfl ?_
  iterate 3 (refine V rfl fun _ k0 => ?_; simp only [zO, zT, acs, reduceCtorEq, J, D, M, U, O, S]; (repeat refine an ?_); (try refine .inl ?_); apply k0; clear k0; simp only [zP, D])
  refine' aC (want := true) 2 rfl (m := 35) (by simp only [zP, J, D]; exact rfl) (by kernel_rfl) rfl rfl rfl rfl rfl (fun hg16 => ?a16) ?b16 ?c16
  case a16 =>
   have hq16 := hg16; (try simp only [zB, reduceCtorEq] at hg16); simp only [zE]
   iterate 2 (refine aO rfl fun _ k0 => ?_; simp only [zO, zT, acs, reduceCtorEq, J, D, M, U, O, S]; (repeat refine an ?_); (try refine .inl ?_); apply k0; clear k0; simp only [zP, D])
   (refine V rfl fun _ k0 => ?_; simp only [zO, zT, acs, reduceCtorEq, J, D, M, U, O, S]; (repeat refine an ?_); (try refine .inl ?_); apply k0; clear k0; simp only [zP, D])
   refine aa ?_
   refine ⟨by simp only [zP, J, D]; exact rfl, rfl, ?_, rfl⟩; (repeat refine aB rfl ?_); exact aQ (by exact rfl) hq16
  case b16 => exact bg
  simp only [aN, aG]
  (refine V rfl fun _ k0 => ?_; simp only [zO, zT, acs, reduceCtorEq, J, D, M, U, O, S]; (repeat refine an ?_); (try refine .inl ?_); apply k0; clear k0; simp only [zP, D])
  refine' aC (want := true) 2 rfl (m := 39) (by simp only [zP, J, D]; exact rfl) (by kernel_rfl) rfl rfl rfl rfl rfl (fun hg17 => ?a17) ?b17 ?c17
  case a17 =>
   have hq17 := hg17; (try simp only [zB, reduceCtorEq] at hg17); simp only [zE]
   iterate 2 (refine aO rfl fun _ k0 => ?_; simp only [zO, zT, acs, reduceCtorEq, J, D, M, U, O, S]; (repeat refine an ?_); (try refine .inl ?_); apply k0; clear k0; simp only [zP, D])
   (refine V rfl fun _ k0 => ?_; simp only [zO, zT, acs, reduceCtorEq, J, D, M, U, O, S]; (repeat refine an ?_); (try refine .inl ?_); apply k0; clear k0; simp only [zP, D])
   refine aa ?_
   refine ⟨by simp only [zP, J, D]; exact rfl, rfl, ?_, rfl⟩; (repeat refine aB rfl ?_); exact aQ (by exact rfl) hq17
  case b17 => exact bg
  simp only [aN, aG]
  (refine V rfl fun _ k0 => ?_; simp only [zO, zT, acs, reduceCtorEq, J, D, M, U, O, S]; (repeat refine an ?_); (try refine .inl ?_); apply k0; clear k0; simp only [zP, D])
  refine' aC (want := true) 2 rfl (m := 43) (by simp only [zP, J, D]; exact rfl) (by kernel_rfl) rfl rfl rfl rfl rfl (fun hg18 => ?a18) ?b18 ?c18
  case a18 =>
   have hq18 := hg18; (try simp only [zB, reduceCtorEq] at hg18); simp only [zE]
   iterate 2 (refine aO rfl fun _ k0 => ?_; simp only [zO, zT, acs, reduceCtorEq, J, D, M, U, O, S]; (repeat refine an ?_); (try refine .inl ?_); apply k0; clear k0; simp only [zP, D])
   (refine V rfl fun _ k0 => ?_; simp only [zO, zT, acs, reduceCtorEq, J, D, M, U, O, S]; (repeat refine an ?_); (try refine .inl ?_); apply k0; clear k0; simp only [zP, D])
   refine aa ?_
   refine ⟨by simp only [zP, J, D]; exact rfl, rfl, ?_, rfl⟩; (repeat refine aB rfl ?_); exact aQ (by exact rfl) hq18
  case b18 => exact bg
  simp only [aN, aG]
  refine aa ?_
  apply k15; clear k15; refine kp [0, 2, 4, 5, 7, 8, 9, 46] ?_
  refine cd (fun hc19 => ?_) (fun hc19 => ?_)
  ·(try simp only [zB, reduceCtorEq] at hc19)
   have ho : ¬ okI (((dec s k).1 : Nat) : Int) := by unfold okI; omega
   refine Z fun _ k20 => ?_
   refine a9 hP hN rfl ?_
   (refine V rfl fun _ k0 => ?_; simp only [zO, zT, acs, reduceCtorEq, J, D, M, U, O, S]; (repeat refine an ?_); (try refine .inl ?_); apply k0; clear k0; simp only [zP, D])
   refine aa ?_
   apply k20; clear k20; refine kp [0, 2, 4, 5, 7, 8, 9, 46] ?_
   refine ak ?_
   refine ⟨nr, _, rfl, ?_⟩; simp only [zF, zP, J, D]
   refine VLE.of_eq ?_
   refine congrArg (fun b => AV.one (AC.bool b)) ?_
   symm
   first
   | exact lD hpos (pv ho)
   | exact lK fun j hj => hI j (by omega)
  (try simp only [zB, reduceCtorEq] at hc19)
  have ho : okI (((dec s k).1 : Nat) : Int) := by unfold okI; omega
  refine am ?_
  have hd := tv ho
  have hn : gN s k = k + 1 := by unfold gN; rw [if_pos hpos, hd.2]
  refine ⟨_, _, ?_, aw [0, 2, 7], gN s k, by omega, fun j hj => ?_, rfl, rfl⟩
  · omega
  · by_cases e : j = k
    · rw [e]; exact hd.1
    · exact hI j (by omega)
 (try simp only [zB, reduceCtorEq] at hc7)
 refine aV ?_
 apply k2; clear k2; refine kp [0, 2, 7, 8, 9] ?_
 refine Z fun _ k21 => ?_
 refine a9 hP hN rfl ?_
 iterate 4 (refine V rfl fun _ k0 => ?_; simp only [zO, zT, acs, reduceCtorEq, J, D, M, U, O, S]; (repeat refine an ?_); (try refine .inl ?_); apply k0; clear k0; simp only [zP, D])
 refine' aC (want := true) 3 rfl (m := 50) (by simp only [zP, J, D]; exact rfl) (by kernel_rfl) rfl rfl rfl rfl rfl (fun hg22 => ?a22) ?b22 ?c22
 case a22 =>
  have hq22 := hg22; (try simp only [zB, reduceCtorEq] at hg22); simp only [zE]
  iterate 3 (refine aO rfl fun _ k0 => ?_; simp only [zO, zT, acs, reduceCtorEq, J, D, M, U, O, S]; (repeat refine an ?_); (try refine .inl ?_); apply k0; clear k0; simp only [zP, D])
  (refine V rfl fun _ k0 => ?_; simp only [zO, zT, acs, reduceCtorEq, J, D, M, U, O, S]; (repeat refine an ?_); (try refine .inl ?_); apply k0; clear k0; simp only [zP, D])
  refine aa ?_
  refine ⟨by simp only [zP, J, D]; exact rfl, rfl, ?_, rfl⟩; (repeat refine aB rfl ?_); exact aQ (by exact rfl) hq22
 case b22 => exact bg
 simp only [aN, aG]
 (refine V rfl fun _ k0 => ?_; simp only [zO, zT, acs, reduceCtorEq, J, D, M, U, O, S]; (repeat refine an ?_); (try refine .inl ?_); apply k0; clear k0; simp only [zP, D])
 refine aa ?_
 apply k21; clear k21; refine kp [0, 2, 7, 8, 9] ?_
 refine ak ?_
 refine ⟨nr, _, rfl, ?_⟩; simp only [zF, zP, J, D]
 refine VLE.of_eq ?_
 refine congrArg (fun b => AV.one (AC.bool b)) ?_
 symm
 first
 | exact lD hpos (pv ho)
 | exact lK fun j hj => hI j (by omega)
theorem lY (xs : List Bs) (x : Bs) : aW Tryd.prog 72 [.one (.list .str xs), .one (.str x)] (.one (.int .i64 (if x ∈ xs then (pos xs x : Int) else -1))) := by
 refine aA Tryd.func72 rfl (by kernel_rfl) (Nat.le_of_ble_eq_true rfl) rfl fun C hP hN hB => ?_
 replace hN : C.N = 19 := hN
 simp only [aL, D]
 refine cO 0 rfl fun hf0 => ?_; simp only [lkp, if_true, if_false, reduceCtorEq, J, eq_self, Nat.one_ne_zero, Nat.zero_ne_one, eT, eu, eD, Fit, and_true, implies_true, true_and] at hf0
 refine Z fun _ k1 => ?_
 refine a9 hP hN rfl ?_
 (refine V rfl fun _ k0 => ?_; simp only [zO, zT, acs, reduceCtorEq, J, D, M, U, O, S]; (repeat refine an ?_); (try refine .inl ?_); apply k0; clear k0; simp only [zP, D])
 refine aa ?_
 apply k1; clear k1; refine kp [0, 1, 4] ?_
 refine Z fun _ k2 => ?_
 refine Z fun _ k3 => ?_
 refine a9 hP hN rfl ?_
 iterate 3 (refine V rfl fun _ k0 => ?_; simp only [zO, zT, acs, reduceCtorEq, J, D, M, U, O, S]; (repeat refine an ?_); (try refine .inl ?_); apply k0; clear k0; simp only [zP, D])
 refine aa ?_
 apply k3; clear k3; refine kp [0, 1, 4, 7, 8] ?_
 refine az ?_
 refine aX (fun n4 s4 => ∃ (k : Nat), (k ≤ xs.length) ∧ (∀ q, q < k → xs.getD q [] ≠ x) ∧ n4 = xs.length - k ∧ s4 = { env := [(0, .one (.list .str xs)), (1, .one (.str x)), (4, .one (.int .i64 0)), (7, .one (.int .i64 (xs.length : Int))), (8, .one (.int .i64 (k : Int)))], L := [] }) ?_ ?_
 ·exact ⟨_, _, aw [0, 1, 4, 7, 8], 0, Nat.zero_le _, fun q hq => by omega, rfl, rfl⟩
 rintro n4 s4 ⟨k, hk, hq, rfl, rfl⟩
 refine Z fun _ k5 => ?_
 refine a9 hP hN rfl ?_
 (refine V rfl fun _ k0 => ?_; simp only [zO, zT, acs, reduceCtorEq, J, D, M, U, O, S]; (repeat refine an ?_); (try refine .inl ?_); apply k0; clear k0; simp only [zP, D])
 refine aa ?_
 apply k5; clear k5; refine kp [0, 1, 4, 7, 8, 9] ?_
 refine Z fun _ k6 => ?_
 refine cd (fun hc7 => ?_) (fun hc7 => ?_)
 ·(try simp only [zB, reduceCtorEq] at hc7)
  refine am ?_
  apply k6; clear k6; refine kp [0, 1, 4, 7, 8, 9] ?_
  refine Z fun _ k8 => ?_
  refine az ?_
  refine Z fun _ k9 => ?_
  refine a9 hP hN rfl ?_
  iterate 2 (refine V rfl fun _ k0 => ?_; simp only [zO, zT, acs, reduceCtorEq, J, D, M, U, O, S]; (repeat refine an ?_); (try refine .inl ?_); apply k0; clear k0; simp only [zP, D])
  refine aa ?_
  apply k9; clear k9; refine kp [0, 1, 4, 5, 7, 8, 9] ?_
  refine Z fun _ k10 => ?_
  refine a9 hP hN rfl ?_
  iterate 6 (refine V rfl fun _ k0 => ?_; simp only [zO, zT, acs, reduceCtorEq, J, D, M, U, O, S]; (repeat refine an ?_); (try refine .inl ?_); apply k0; clear k0; simp only [zP, D])
  refine aa ?_
  apply k10; clear k10; refine kp [0, 1, 4, 5, 7, 8, 9, 16] ?_
  refine cd (fun hc11 => ?_) (fun hc11 => ?_)
  ·(try simp only [zB, reduceCtorEq] at hc11)
   have hme : xs.getD k [] = x := by first | exact hc11 | exact (hc11).symm
   refine Z fun _ k12 => ?_
   refine a9 hP hN rfl ?_
   iterate 2 (refine V rfl fun _ k0 => ?_; simp only [zO, zT, acs, reduceCtorEq, J, D, M, U, O, S]; (repeat refine an ?_); (try refine .inl ?_); apply k0; clear k0; simp only [zP, D])
   refine aa ?_
   apply k12; clear k12; refine kp [0, 1, 4, 5, 7, 8, 9, 16] ?_
   refine ak ?_
   refine ⟨nr, _, rfl, ?_⟩; simp only [zF, zP, J, D]
   refine VLE.of_eq ?_
   refine congrArg (fun n => AV.one (AC.int IntKind.i64 n)) ?_
   symm
   first
   | (have g9 := rj (fun q hq2 => hq q hq2) (by omega) hme; obtain ⟨g1, g2⟩ := g9; rw [if_pos g2, g1]; done)
   | (rw [if_neg (tQ fun q hq2 => hq q (by omega))]; done)
  (try simp only [zB, reduceCtorEq] at hc11)
  have hne : xs.getD k [] ≠ x := by first | exact hc11 | exact Ne.symm hc11
  refine am ?_
  apply k8; clear k8; refine kp [0, 1, 4, 5, 7, 8, 9, 16] ?_
  refine a9 hP hN rfl ?_
  iterate 2 (refine V rfl fun _ k0 => ?_; simp only [zO, zT, acs, reduceCtorEq, J, D, M, U, O, S]; (repeat refine an ?_); (try refine .inl ?_); apply k0; clear k0; simp only [zP, D])
  refine aa ?_
  refine ⟨_, _, ?_, aw [0, 1, 4, 7, 8], k + 1, by omega, fun q hq2 => ?_, rfl, rfl⟩
  · omega
  · by_cases e : q = k
    · rw [e]; exact hne
    · exact hq q (by omega)
 (try simp only [zB, reduceCtorEq] at hc7)
 refine aV ?_
 apply k2; clear k2; refine kp [0, 1, 4, 7, 8, 9] ?_
 refine Z fun _ k13 => ?_
 refine a9 hP hN rfl ?_
 (refine V rfl fun _ k0 => ?_; simp only [zO, zT, acs, reduceCtorEq, J, D, M, U, O, S]; (repeat refine an ?_); (try refine .inl ?_); apply k0; clear k0; simp only [zP, D])
 refine aa ?_
 apply k13; clear k13; refine kp [0, 1, 4, 7, 8, 9] ?_
 refine ak ?_
 refine ⟨nr, _, rfl, ?_⟩; simp only [zF, zP, J, D]
 refine VLE.of_eq ?_
 refine congrArg (fun n => AV.one (AC.int IntKind.i64 n)) ?_
 symm
 first
 | (have g9 := rj (fun q hq2 => hq q hq2) (by omega) hme; obtain ⟨g1, g2⟩ := g9; rw [if_pos g2, g1]; done)
 | (rw [if_neg (tQ fun q hq2 => hq q (by omega))]; done)
theorem mF (xs : List Bs) (x : Bs) : aW Tryd.prog 67 [.one (.list .str xs), .one (.str x)] (.one (.bool (decide (x ∈ xs)))) := by
 refine aA Tryd.func67 rfl (by kernel_rfl) (Nat.le_of_ble_eq_true rfl) rfl fun C hP hN hB => ?_
 replace hN : C.N = 9 := hN
 simp only [aL, D]
 refine Z fun _ k1 => ?_
 refine a9 hP hN rfl ?_
 (refine V rfl fun _ k0 => ?_; simp only [zO, zT, acs, reduceCtorEq, J, D, M, U, O, S]; (repeat refine an ?_); (try refine .inl ?_); apply k0; clear k0; simp only [zP, D])
 refine aa ?_
 apply k1; clear k1; refine kp [0, 1, 4] ?_
 refine Z fun _ k2 => ?_
 refine a9 hP hN rfl ?_
 iterate 2 (refine V rfl fun _ k0 => ?_; simp only [zO, zT, acs, reduceCtorEq, J, D, M, U, O, S]; (repeat refine an ?_); (try refine .inl ?_); apply k0; clear k0; simp only [zP, D])
 refine V rfl fun _ k0 => ?_
 refine ar (h := ah (lY xs x)) rfl rfl (by first | exact rfl | (simp only [ev, zP, J, D]; exact rfl)) (by simp only [zV, acs, reduceCtorEq, J, D, M, U, O, S]) ?_
 apply k0; clear k0; simp only [zP, D]
 iterate 2 (refine V rfl fun _ k0 => ?_; simp only [zO, zT, acs, reduceCtorEq, J, D, M, U, O, S]; (repeat refine an ?_); (try refine .inl ?_); apply k0; clear k0; simp only [zP, D])
 refine aa ?_
 apply k2; clear k2; refine kp [0, 1, 4] ?_
 refine ak ?_
 refine ⟨nr, _, rfl, ?_⟩; simp only [zF, zP, J, D]
 refine VLE.of_eq ?_
 refine congrArg (fun b => AV.one (AC.bool b)) ?_
 by_cases h : x ∈ xs
 · rw [if_pos h]; simp [h]
 · rw [if_neg h]; simp [h]
theorem kD (xs : List Bs) : aW Tryd.prog 47 [.agg [.list .str xs]] (.one (.int .i64 (alE xs))) := by
 refine aA Tryd.func47 rfl (by kernel_rfl) (Nat.le_of_ble_eq_true rfl) rfl fun C hP hN hB => ?_
 replace hN : C.N = 33 := hN
 simp only [aL, D]
 refine Z fun _ k1 => ?_
 refine a9 hP hN rfl ?_
 iterate 2 (refine V rfl fun _ k0 => ?_; simp only [zO, zT, acs, reduceCtorEq, J, D, M, U, O, S]; (repeat refine an ?_); (try refine .inl ?_); apply k0; clear k0; simp only [zP, D])
 refine aa ?_
 apply k1; clear k1; refine kp [0, 1, 2] ?_
 refine Z fun _ k2 => ?_
 refine az ?_
 refine Z fun _ k3 => ?_
 refine a9 hP hN rfl ?_
 iterate 5 (refine V rfl fun _ k0 => ?_; simp only [zO, zT, acs, reduceCtorEq, J, D, M, U, O, S]; (repeat refine an ?_); (try refine .inl ?_); apply k0; clear k0; simp only [zP, D])
 refine aa ?_
 apply k3; clear k3; refine kp [0, 1, 2, 5] ?_
 refine cd (fun hc4 => ?_) (fun hc4 => ?_)
 ·(try simp only [zB, reduceCtorEq] at hc4)
  refine Z fun _ k5 => ?_
  refine a9 hP hN rfl ?_
  (refine V rfl fun _ k0 => ?_; simp only [zO, zT, acs, reduceCtorEq, J, D, M, U, O, S]; (repeat refine an ?_); (try refine .inl ?_); apply k0; clear k0; simp only [zP, D])
  refine aa ?_
  apply k5; clear k5; refine kp [0, 1, 2, 5] ?_
  refine ak ?_
  refine ⟨nr, _, rfl, ?_⟩; simp only [zF, zP, J, D]
  refine VLE.of_eq ?_
  refine congrArg (fun n => AV.one (AC.int IntKind.i64 n)) ?_
  symm
  first
  | exact kA (by omega)
  | exact ir (by omega) (by omega)
  | exact kP (by omega) (by omega) (k := k) (by omega) hq hbad
  | exact kW (by omega) (by omega) (k := k) (by omega) hq hgood hin
  | exact i4 (by omega) (by omega) fun q hq2 => hq q (by omega)
 (try simp only [zB, reduceCtorEq] at hc4)
 refine Z fun _ k6 => ?_
 refine a9 hP hN rfl ?_
 iterate 5 (refine V rfl fun _ k0 => ?_; simp only [zO, zT, acs, reduceCtorEq, J, D, M, U, O, S]; (repeat refine an ?_); (try refine .inl ?_); apply k0; clear k0; simp only [zP, D])
 refine aa ?_
 apply k6; clear k6; refine kp [0, 1, 2, 5, 10] ?_
 refine cd (fun hc7 => ?_) (fun hc7 => ?_)
 ·(try simp only [zB, reduceCtorEq] at hc7)
  refine Z fun _ k8 => ?_
  refine a9 hP hN rfl ?_
  (refine V rfl fun _ k0 => ?_; simp only [zO, zT, acs, reduceCtorEq, J, D, M, U, O, S]; (repeat refine an ?_); (try refine .inl ?_); apply k0; clear k0; simp only [zP, D])
  refine aa ?_
  apply k8; clear k8; refine kp [0, 1, 2, 5, 10] ?_
  refine ak ?_
  refine ⟨nr, _, rfl, ?_⟩; simp only [zF, zP, J, D]
  refine VLE.of_eq ?_
  refine congrArg (fun n => AV.one (AC.int IntKind.i64 n)) ?_
  symm
  first
  | exact kA (by omega)
  | exact ir (by omega) (by omega)
  | exact kP (by omega) (by omega) (k := k) (by omega) hq hbad
  | exact kW (by omega) (by omega) (k := k) (by omega) hq hgood hin
  | exact i4 (by omega) (by omega) fun q hq2 => hq q (by omega)
 (try simp only [zB, reduceCtorEq] at hc7)
 refine am ?_
 apply k2; clear k2; refine kp [0, 1, 2, 5, 10] ?_
 refine Z fun _ k9 => ?_
 refine Z fun _ k10 => ?_
 refine a9 hP hN rfl ?_
 iterate 4 (refine V rfl fun _ k0 => ?_; simp only [zO, zT, acs, reduceCtorEq, J, D, M, U, O, S]; (repeat refine an ?_); (try refine .inl ?_); apply k0; clear k0; simp only [zP, D])
 refine aa ?_
 apply k10; clear k10; refine kp [0, 1, 2, 5, 10, 16, 17, 18] ?_
 refine az ?_
 refine aX (fun n11 s11 => ∃ (k : Nat), (k ≤ xs.length) ∧ (∀ q, q < k → nmE xs q = 0) ∧ n11 = xs.length - k ∧ s11 = { env := [(1, .one (.ptr 0 0 0 0)), (2, .one (.int .i64 0)), (16, .one (.list .str xs)), (17, .one (.int .i64 (xs.length : Int))), (18, .one (.int .i64 (k : Int)))], L := [.vars 24 [.list .str xs]] }) ?_ ?_
 ·exact ⟨_, _, aw [1, 2, 16, 17, 18], 0, Nat.zero_le _, fun q hq => by omega, rfl, rfl⟩
 rintro n11 s11 ⟨k, hk, hq, rfl, rfl⟩
 refine Z fun _ k12 => ?_
 refine a9 hP hN rfl ?_
 (refine V rfl fun _ k0 => ?_; simp only [zO, zT, acs, reduceCtorEq, J, D, M, U, O, S]; (repeat refine an ?_); (try refine .inl ?_); apply k0; clear k0; simp only [zP, D])
 refine aa ?_
 apply k12; clear k12; refine kp [1, 2, 16, 17, 18, 19] ?_
 refine Z fun _ k13 => ?_
 refine cd (fun hc14 => ?_) (fun hc14 => ?_)
 ·(try simp only [zB, reduceCtorEq] at hc14)
  refine am ?_
  apply k13; clear k13; refine kp [1, 2, 16, 17, 18, 19] ?_
  refine Z fun _ k15 => ?_
  refine az ?_
  refine Z fun _ k16 => ?_
  refine a9 hP hN rfl ?_
  iterate 5 (refine V rfl fun _ k0 => ?_; simp only [zO, zT, acs, reduceCtorEq, J, D, M, U, O, S]; (repeat refine an ?_); (try refine .inl ?_); apply k0; clear k0; simp only [zP, D])
  refine aa ?_
  apply k16; clear k16; refine kp [1, 2, 3, 4, 16, 17, 18, 19] ?_
  refine Z fun _ k17 => ?_
  refine Z fun _ k18 => ?_
  refine a9 hP hN rfl ?_
  (refine V rfl fun _ k0 => ?_; simp only [zO, zT, acs, reduceCtorEq, J, D, M, U, O, S]; (repeat refine an ?_); (try refine .inl ?_); apply k0; clear k0; simp only [zP, D])
  refine V rfl fun _ k0 => ?_
  refine ar (h := ah (tJ (xs.getD k []))) rfl rfl (by first | exact rfl | (simp only [ev, zP, J, D]; exact rfl)) (by simp only [zV, acs, reduceCtorEq, J, D, M, U, O, S]) ?_
  apply k0; clear k0; simp only [zP, D]
  (refine V rfl fun _ k0 => ?_; simp only [zO, zT, acs, reduceCtorEq, J, D, M, U, O, S]; (repeat refine an ?_); (try refine .inl ?_); apply k0; clear k0; simp only [zP, D])
  refine aa ?_
  apply k18; clear k18; refine kp [1, 2, 3, 4, 16, 17, 18, 19, 25] ?_
  refine cd (fun hc19 => ?_) (fun hc19 => ?_)
  ·(try simp only [zB, reduceCtorEq] at hc19)
   have hbad : ck (xs.getD k []) = false := by simpa using hc19
   refine Z fun _ k20 => ?_
   refine a9 hP hN rfl ?_
   (refine V rfl fun _ k0 => ?_; simp only [zO, zT, acs, reduceCtorEq, J, D, M, U, O, S]; (repeat refine an ?_); (try refine .inl ?_); apply k0; clear k0; simp only [zP, D])
   refine aa ?_
   apply k20; clear k20; refine kp [1, 2, 3, 4, 16, 17, 18, 19, 25] ?_
   refine ak ?_
   refine ⟨nr, _, rfl, ?_⟩; simp only [zF, zP, J, D]
   refine VLE.of_eq ?_
   refine congrArg (fun n => AV.one (AC.int IntKind.i64 n)) ?_
   symm
   first
   | exact kA (by omega)
   | exact ir (by omega) (by omega)
   | exact kP (by omega) (by omega) (k := k) (by omega) hq hbad
   | exact kW (by omega) (by omega) (k := k) (by omega) hq hgood hin
   | exact i4 (by omega) (by omega) fun q hq2 => hq q (by omega)
  (try simp only [zB, reduceCtorEq] at hc19)
  have hgood : ck (xs.getD k []) = true := by simpa using hc19
  refine am ?_
  apply k17; clear k17; refine kp [1, 2, 3, 4, 16, 17, 18, 19, 25] ?_
  refine Z fun _ k21 => ?_
  refine a9 hP hN rfl ?_
  iterate 3 (refine V rfl fun _ k0 => ?_; simp only [zO, zT, acs, reduceCtorEq, J, D, M, U, O, S, List.drop_zero, ae, Int.toNat_zero]; (repeat refine an ?_); (try refine .inl ?_); apply k0; clear k0; simp only [zP, D])
  (refine V rfl fun _ k0 => ?_; simp only [zE, op1, ev, lkp, c9, be, cf, dW, Nat.mul_one, bz, cF, acs, Ty.dflt, zG, bT, bU, bnd, Ty.size, reduceCtorEq, J, D, M, U, O, S, Tryd.el22, Tryd.st24, Tryd.td22, Tryd.td24, Tryd.td3, Tryd.td9, List.drop_zero, ae, Int.toNat_zero]; (repeat refine an ?_); (try refine .inl ?_); apply k0; clear k0; simp only [zP, D])
  (refine V rfl fun _ k0 => ?_; simp only [zO, zT, acs, reduceCtorEq, J, D, M, U, O, S, List.drop_zero, ae, Int.toNat_zero]; (repeat refine an ?_); (try refine .inl ?_); apply k0; clear k0; simp only [zP, D])
  refine V rfl fun _ k0 => ?_
  refine ar (h := ah (mF (xs.take k) (xs.getD k []))) rfl rfl (by first | exact rfl | (simp only [ev, zP, J, D]; exact rfl)) (by simp only [zV, acs, reduceCtorEq, J, D, M, U, O, S, List.drop_zero, ae, Int.toNat_zero]) ?_
  apply k0; clear k0; simp only [zP, D]
  refine aa ?_
  apply k21; clear k21; refine kp [1, 2, 3, 4, 16, 17, 18, 19, 25, 31] ?_
  refine cd (fun hc22 => ?_) (fun hc22 => ?_)
  ·(try simp only [zB, reduceCtorEq] at hc22)
   have hin : xs.getD k [] ∈ xs.take k := by simpa using hc22
   refine Z fun _ k23 => ?_
   refine a9 hP hN rfl ?_
   (refine V rfl fun _ k0 => ?_; simp only [zO, zT, acs, reduceCtorEq, J, D, M, U, O, S]; (repeat refine an ?_); (try refine .inl ?_); apply k0; clear k0; simp only [zP, D])
   refine aa ?_
   apply k23; clear k23; refine kp [1, 2, 3, 4, 16, 17, 18, 19, 25, 31] ?_
   refine ak ?_
   refine ⟨nr, _, rfl, ?_⟩; simp only [zF, zP, J, D]
   refine VLE.of_eq ?_
   refine congrArg (fun n => AV.one (AC.int IntKind.i64 n)) ?_
   symm
   first
   | exact kA (by omega)
   | exact ir (by omega) (by omega)
   | exact kP (by omega) (by omega) (k := k) (by omega) hq hbad
   | exact kW (by omega) (by omega) (k := k) (by omega) hq hgood hin
   | exact i4 (by omega) (by omega) fun q hq2 => hq q (by omega)
  (try simp only [zB, reduceCtorEq] at hc22)
  have hnin : xs.getD k [] ∉ xs.take k := by simpa using hc22
  refine am ?_
  apply k15; clear k15; refine kp [1, 2, 3, 4, 16, 17, 18, 19, 25, 31] ?_
  refine a9 hP hN rfl ?_
  iterate 2 (refine V rfl fun _ k0 => ?_; simp only [zO, zT, acs, reduceCtorEq, J, D, M, U, O, S]; (repeat refine an ?_); (try refine .inl ?_); apply k0; clear k0; simp only [zP, D])
  refine aa ?_
  refine ⟨_, _, ?_, aw [1, 2, 16, 17, 18], k + 1, by omega, fun q hq2 => ?_, rfl, rfl⟩
  · omega
  · by_cases e : q = k
    · rw [e]; exact tV hgood hnin
    · exact hq q (by omega)
 (try simp only [zB, reduceCtorEq] at hc14)
 refine aV ?_
 apply k9; clear k9; refine kp [1, 2, 16, 17, 18, 19] ?_
 refine Z fun _ k24 => ?_
 refine a9 hP hN rfl ?_
 (refine V rfl fun _ k0 => ?_; simp only [zO, zT, acs, reduceCtorEq, J, D, M, U, O, S]; (repeat refine an ?_); (try refine .inl ?_); apply k0; clear k0; simp only [zP, D])
 refine aa ?_
 apply k24; clear k24; refine kp [1, 2, 16, 17, 18, 19] ?_
 refine ak ?_
 refine ⟨nr, _, rfl, ?_⟩; simp only [zF, zP, J, D]
 refine VLE.of_eq ?_
 refine congrArg (fun n => AV.one (AC.int IntKind.i64 n)) ?_
 symm
 first
 | exact kA (by omega)
 | exact ir (by omega) (by omega)
 | exact kP (by omega) (by omega) (k := k) (by omega) hq hbad
 | exact kW (by omega) (by omega) (k := k) (by omega) hq hgood hin
 | exact i4 (by omega) (by omega) fun q hq2 => hq q (by omega)
theorem lE (xs ys : List Bs) : aW Tryd.prog 25 [.agg [.list .str xs], .agg [.list .str ys]] (.one (.int .i64 (ct xs ys))) := by
 refine aA Tryd.func25 rfl (by kernel_rfl) (Nat.le_of_ble_eq_true rfl) rfl fun C hP hN hB => ?_
 replace hN : C.N = 13 := hN
 simp only [aL, D]
 refine Z fun _ k1 => ?_
 refine a9 hP hN rfl ?_
 iterate 3 (refine V rfl fun _ k0 => ?_; simp only [zO, zT, acs, reduceCtorEq, J, D, M, U, O, S]; (repeat refine an ?_); (try refine .inl ?_); apply k0; clear k0; simp only [zP, D])
 refine aa ?_
 apply k1; clear k1; refine kp [0, 1, 2, 3, 4] ?_
 refine Z fun _ k2 => ?_
 refine Z fun _ k3 => ?_
 refine a9 hP hN rfl ?_
 (refine V rfl fun _ k0 => ?_; simp only [zO, zT, acs, reduceCtorEq, J, D, M, U, O, S]; (repeat refine an ?_); (try refine .inl ?_); apply k0; clear k0; simp only [zP, D])
 refine V rfl fun _ k0 => ?_
 refine ar (h := ah (kD xs)) rfl rfl (by first | exact rfl | (simp only [ev, zP, J, D]; exact rfl)) (by simp only [zV, acs, reduceCtorEq, J, D, M, U, O, S]) ?_
 apply k0; clear k0; simp only [zP, D]
 (refine V rfl fun _ k0 => ?_; simp only [zO, zT, acs, reduceCtorEq, J, D, M, U, O, S]; (repeat refine an ?_); (try refine .inl ?_); apply k0; clear k0; simp only [zP, D])
 refine aa ?_
 apply k3; clear k3; refine kp [0, 1, 2, 3, 4, 5] ?_
 refine Z fun _ k4 => ?_
 refine a9 hP hN rfl ?_
 iterate 2 (refine V rfl fun _ k0 => ?_; simp only [zO, zT, acs, reduceCtorEq, J, D, M, U, O, S]; (repeat refine an ?_); (try refine .inl ?_); apply k0; clear k0; simp only [zP, D])
 refine aa ?_
 apply k4; clear k4; refine kp [0, 1, 2, 3, 4, 5, 9] ?_
 refine cd (fun hc5 => ?_) (fun hc5 => ?_)
 ·(try simp only [zB, reduceCtorEq] at hc5)
  have h0 := hc5
  refine Z fun _ k6 => ?_
  refine a9 hP hN rfl ?_
  iterate 2 (refine V rfl fun _ k0 => ?_; simp only [zO, zT, acs, reduceCtorEq, J, D, M, U, O, S]; (repeat refine an ?_); (try refine .inl ?_); apply k0; clear k0; simp only [zP, D])
  refine aa ?_
  apply k6; clear k6; refine kp [0, 1, 2, 3, 4, 5, 9] ?_
  refine ak ?_
  refine ⟨nr, _, rfl, ?_⟩; simp only [zF, zP, J, D]
  refine VLE.of_eq ?_
  unfold ct
  first
  | (rw [if_neg h0]; done)
  | (rw [if_pos h0]; done)
 (try simp only [zB, reduceCtorEq] at hc5)
 have h0 := hc5
 refine am ?_
 apply k2; clear k2; refine kp [0, 1, 2, 3, 4, 5, 9] ?_
 refine Z fun _ k7 => ?_
 refine a9 hP hN rfl ?_
 (refine V rfl fun _ k0 => ?_; simp only [zO, zT, acs, reduceCtorEq, J, D, M, U, O, S]; (repeat refine an ?_); (try refine .inl ?_); apply k0; clear k0; simp only [zP, D])
 refine V rfl fun _ k0 => ?_
 refine ar (h := ah (kD ys)) rfl rfl (by first | exact rfl | (simp only [ev, zP, J, D]; exact rfl)) (by simp only [zV, acs, reduceCtorEq, J, D, M, U, O, S]) ?_
 apply k0; clear k0; simp only [zP, D]
 (refine V rfl fun _ k0 => ?_; simp only [zO, zT, acs, reduceCtorEq, J, D, M, U, O, S]; (repeat refine an ?_); (try refine .inl ?_); apply k0; clear k0; simp only [zP, D])
 refine aa ?_
 apply k7; clear k7; refine kp [0, 1, 2, 3, 4, 5, 9] ?_
 refine ak ?_
 refine ⟨nr, _, rfl, ?_⟩; simp only [zF, zP, J, D]
 refine VLE.of_eq ?_
 unfold ct
 first
 | (rw [if_neg h0]; done)
 | (rw [if_pos h0]; done)
theorem kV (xs : List Bs) (x : Bs) : aW Tryd.prog 54 [.agg [.list .str xs], .one (.str x)] (.tup [.one (.int .i64 (idA xs x)), .one (.bool (decide (x ∈ xs)))]) := by
 refine aA Tryd.func54 rfl (by kernel_rfl) (Nat.le_of_ble_eq_true rfl) rfl fun C hP hN hB => ?_
 replace hN : C.N = 15 := hN
 simp only [aL, D]
 refine Z fun _ k1 => ?_
 refine a9 hP hN rfl ?_
 iterate 3 (refine V rfl fun _ k0 => ?_; simp only [zO, zT, acs, reduceCtorEq, J, D, M, U, O, S]; (repeat refine an ?_); (try refine .inl ?_); apply k0; clear k0; simp only [zP, D])
 refine aa ?_
 apply k1; clear k1; refine kp [0, 1, 2, 4, 5] ?_
 refine Z fun _ k2 => ?_
 refine a9 hP hN rfl ?_
 iterate 3 (refine V rfl fun _ k0 => ?_; simp only [zO, zT, acs, reduceCtorEq, J, D, M, U, O, S]; (repeat refine an ?_); (try refine .inl ?_); apply k0; clear k0; simp only [zP, D])
 refine V rfl fun _ k0 => ?_
 refine ar (h := ah (lY xs x)) rfl rfl (by first | exact rfl | (simp only [ev, zP, J, D]; exact rfl)) (by simp only [zV, acs, reduceCtorEq, J, D, M, U, O, S]) ?_
 apply k0; clear k0; simp only [zP, D]
 (refine V rfl fun _ k0 => ?_; simp only [zO, zT, acs, reduceCtorEq, J, D, M, U, O, S]; (repeat refine an ?_); (try refine .inl ?_); apply k0; clear k0; simp only [zP, D])
 refine aa ?_
 apply k2; clear k2; refine kp [0, 1, 2, 4, 5, 6] ?_
 refine Z fun _ k3 => ?_
 refine a9 hP hN rfl ?_
 iterate 6 (refine V rfl fun _ k0 => ?_; simp only [zO, zT, acs, reduceCtorEq, J, D, M, U, O, S]; (repeat refine an ?_); (try refine .inl ?_); apply k0; clear k0; simp only [zP, D])
 refine aa ?_
 apply k3; clear k3; refine kp [0, 1, 2, 4, 5, 6] ?_
 refine ak ?_
 refine ⟨nr, _, rfl, ?_⟩; simp only [zF, zP, J, D]
 refine VLE.of_eq ?_
 unfold idA
 by_cases h : x ∈ xs
 · simp [h]
 · simp [h]; decide
open Go.Shelf in
def Tryd.lays138_ren : Go.Shelf.Ren := ⟨fun | 138 => 53 | 195 => 70 | 218 => 71 | 143 => 50 | 219 => 68 | 217 => 82 | 225 => 83 | 224 => 84 | 267 => 85 | 266 => 98 | 314 => 99 | n => n, fun | 9 => 9 | 3 => 3 | 4 => 4 | 5 => 5 | 0 => 0 | 46 => 122 | 146 => 132 | 51 => 131 | n => n, fun | 1 => 0 | n => n⟩
theorem Tryd.lays138 : Go.Proofs.Lays.n138 Tryd.prog Tryd.lays138_ren := {
  mixed := by kernel_rfl,
  f138 := Tryd.func53.trans (congrArg some (by kernel_rfl)),
  f143 := Tryd.func50.trans (congrArg some (by kernel_rfl)),
  f195 := Tryd.func70.trans (congrArg some (by kernel_rfl)),
  f217 := Tryd.func82.trans (congrArg some (by kernel_rfl)),
  f218 := Tryd.func71.trans (congrArg some (by kernel_rfl)),
  f219 := Tryd.func68.trans (congrArg some (by kernel_rfl)),
  f224 := Tryd.func84.trans (congrArg some (by kernel_rfl)),
  f225 := Tryd.func83.trans (congrArg some (by kernel_rfl)),
  f266 := Tryd.func98.trans (congrArg some (by kernel_rfl)),
  f267 := Tryd.func85.trans (congrArg some (by kernel_rfl)),
  f314 := Tryd.func99.trans (congrArg some (by kernel_rfl)),
  t0 := Tryd.underlying0,
  a0 := Tryd.isAgg0,
  z0 := Tryd.sizeOf0,
  v0 := Tryd.zeroValue0,
  t3 := Tryd.underlying3,
  a3 := Tryd.isAgg3,
  z3 := Tryd.sizeOf3,
  v3 := Tryd.zeroValue3,
  t4 := Tryd.underlying4,
  a4 := Tryd.isAgg4,
  z4 := Tryd.sizeOf4,
  v4 := Tryd.zeroValue4,
  t5 := Tryd.underlying5,
  a5 := Tryd.isAgg5,
  z5 := Tryd.sizeOf5,
  v5 := Tryd.zeroValue5,
  t9 := Tryd.underlying9,
  a9 := Tryd.isAgg9,
  z9 := Tryd.sizeOf9,
  v9 := Tryd.zeroValue9,
  t46 := Tryd.underlying122,
  a46 := Tryd.isAgg122,
  z46 := Tryd.sizeOf122,
  v46 := Tryd.zeroValue122,
  t51 := Tryd.underlying131,
  a51 := Tryd.isAgg131,
  z51 := Tryd.sizeOf131,
  v51 := Tryd.zeroValue131,
  t146 := Tryd.underlying132,
  a146 := Tryd.isAgg132,
  z146 := Tryd.sizeOf132,
  v146 := Tryd.zeroValue132,
  g1 := by kernel_rfl }
theorem pw (s : List UInt8) (c : UInt8) : aW Tryd.prog 53 [.one (.str s), .one (.str [c])] (.one (.int .i64 (Lib.countByte s c : Int))) := by
  refine ⟨⟨Tryd.f53, Tryd.func53, by kernel_rfl, by kernel_rfl⟩, fun C L σ w vs hP hi ha => ?_⟩
  match vs, ha with
  | [v1, v2], ⟨h1, h2, _⟩ =>
  have e1 : v1 = .string ⟨s.toArray⟩ := h1.2
  have e2 := h2.2
  subst e1
  simp only [RC0] at e2
  subst e2
  refine Calls.mono (Any.strings_Count_one Tryd.lays138 ⟨s.toArray⟩ c w) fun e w' hh => ?_
  obtain ⟨e1, e2⟩ := hh
  subst e2
  exact ⟨_, e1, MORE.refl _, rfl, rfl⟩
set_option maxHeartbeats 1000000 in
theorem sN (xs ys : List Bs) (v : Nat) (A B : List Int) (p : Bs) (hp : p.length ≤ 1000000000) (hA : A.length ≤ 100000) (hBl : B.length ≤ 100000) : cr Tryd.prog [.vars 24 [.list .str xs], .vars 24 [.list .str ys], .vars 60 [.nils, .nils], .vars 60 [.row 4 v, .row 5 v], .row (.int .i64) 3 v A, .row (.int .i64) 3 v B] 52 [.one (.str p), .one (.ptr 0 0 0 0), .one (.ptr 1 0 0 0), .one (.ptr 3 0 0 0)] { av := .one (.int .i64 (dj xs ys p)), upd := [(3, .vars 60 [.row 4 (lu xs ys p v), .row 5 (lu xs ys p v)]), (4, .row (.int .i64) 3 (lu xs ys p v) (sQ xs ys p A)), (5, .row (.int .i64) 3 (lu xs ys p v) (sD xs ys p B))], fp := [0, 1, 2, 3, 4, 5] } := by
 refine cK _ _ Tryd.func52 rfl (by kernel_rfl) (Nat.le_of_ble_eq_true rfl) (by intro k hk; simp only [af, au, Nat.zero_add, D] at hk; simp only [List.mem_cons, List.not_mem_nil, or_false]; omega) (fun C hP hN hB => ?_)
 replace hB : C.bL.length = 6 := by rw [hB]; rfl
 replace hN : C.N = 52 := hN
 simp only [aL, D]
 refine Z fun _ k1 => ?_
 refine a9 hP hN rfl ?_
 (refine V rfl fun _ k0 => ?_; simp only [zO, zT, acs, reduceCtorEq, J, D, M, U, O, S]; (repeat refine an ?_); (try refine .inl ?_); apply k0; clear k0; simp only [zP, D])
 refine aa ?_
 apply k1; clear k1; refine kp [0, 1, 2, 3, 5] ?_
 refine Z fun _ k2 => ?_
 refine Z fun _ k3 => ?_
 refine a9 hP hN rfl ?_
 (refine V rfl fun _ k0 => ?_; simp only [zO, zT, acs, reduceCtorEq, J, D, M, U, O, S]; (repeat refine an ?_); (try refine .inl ?_); apply k0; clear k0; simp only [zP, D])
 refine V rfl fun _ k0 => ?_
 refine ar (h := ah (pw p 47)) rfl rfl (by first | exact rfl | (simp only [ev, zP, J, D]; exact rfl)) (by simp only [zV, acs, reduceCtorEq, J, D, M, U, O, S]) ?_
 apply k0; clear k0; simp only [zP, D]
 (refine V rfl fun _ k0 => ?_; simp only [zO, zT, acs, reduceCtorEq, J, D, M, U, O, S]; (repeat refine an ?_); (try refine .inl ?_); apply k0; clear k0; simp only [zP, D])
 refine aa ?_
 apply k3; clear k3; refine kp [0, 1, 2, 3, 5, 15] ?_
 refine cd (fun hc4 => ?_) (fun hc4 => ?_)
 ·(try simp only [zB, reduceCtorEq] at hc4)
  have h5 := hc4
  refine Z fun _ k5 => ?_
  refine a9 hP hN rfl ?_
  (refine V rfl fun _ k0 => ?_; simp only [zO, zT, acs, reduceCtorEq, J, D, M, U, O, S]; (repeat refine an ?_); (try refine .inl ?_); apply k0; clear k0; simp only [zP, D])
  refine aa ?_
  apply k5; clear k5; refine kp [0, 1, 2, 3, 5, 15] ?_
  refine ak ?_
  refine ⟨by first | exact .inl rfl | exact .inr rfl, _, rfl, ?_⟩; simp only [zP, J, D]
  first
  | (have hE := mL (xs := xs) (ys := ys) (p := p) (by omega)
     obtain ⟨e1, e2, e3⟩ := dL (xs := xs) (ys := ys) (p := p) (by rw [hE]; decide) v A
     obtain ⟨_, _, e4⟩ := dL (xs := xs) (ys := ys) (p := p) (by rw [hE]; decide) v B
     rw [hE, e1, e2, e4]; all_goals (first | exact ⟨rfl, rfl⟩ | rfl))
  | (have hE := mV (xs := xs) (ys := ys) (p := p) (by omega) h8
     obtain ⟨e1, e2, e3⟩ := dL (xs := xs) (ys := ys) (p := p) (by rw [hE]; decide) v A
     obtain ⟨_, _, e4⟩ := dL (xs := xs) (ys := ys) (p := p) (by rw [hE]; decide) v B
     rw [hE, e1, e2, e4]; all_goals (first | exact ⟨rfl, rfl⟩ | rfl))
  | (have hE := jL (xs := xs) (ys := ys) (p := p) (by omega) h0
     obtain ⟨e1, e2, e3⟩ := eG (xs := xs) (ys := ys) (p := p) hE v A
     obtain ⟨_, _, e4⟩ := eG (xs := xs) (ys := ys) (p := p) hE v B
     rw [hE, e1, e2, e4]; all_goals (first | exact ⟨rfl, rfl⟩ | rfl))
 (try simp only [zB, reduceCtorEq] at hc4)
 have h1 := hc4
 refine am ?_
 apply k2; clear k2; refine kp [0, 1, 2, 3, 5, 15] ?_
 refine Z fun _ k6 => ?_
 refine a9 hP hN rfl ?_
 (refine V rfl fun _ k0 => ?_; simp only [zO, zT, acs, reduceCtorEq, J, D, M, U, O, S]; (repeat refine an ?_); (try refine .inl ?_); apply k0; clear k0; simp only [zP, D])
 refine V rfl fun _ k0 => ?_
 refine ar (h := ah (pz p 47 (by omega))) rfl rfl (by first | exact rfl | (simp only [ev, zP, J, D]; exact rfl)) (by simp only [zV, acs, reduceCtorEq, J, D, M, U, O, S]) ?_
 apply k0; clear k0; simp only [zP, D]
 iterate 7 (refine V rfl fun _ k0 => ?_; simp only [zO, zT, acs, reduceCtorEq, J, D, M, U, O, S]; (repeat refine an ?_); (try refine .inl ?_); apply k0; clear k0; simp only [zP, D])
 refine aa ?_
 apply k6; clear k6; refine kp [0, 1, 2, 3, 5, 6, 7, 15] ?_
 refine Z fun _ k7 => ?_
 refine a9 hP hN rfl ?_
 iterate 2 (refine V rfl fun _ k0 => ?_; simp only [zO, zT, acs, reduceCtorEq, J, D, M, U, O, S]; (repeat refine an ?_); (try refine .inl ?_); apply k0; clear k0; simp only [zP, D])
 refine V rfl fun _ k0 => ?_
 refine ar (h := ah (kV xs (ef p 47))) rfl rfl (by first | exact rfl | (simp only [ev, zP, J, D]; exact rfl)) (by simp only [zV, acs, reduceCtorEq, J, D, M, U, O, S]) ?_
 apply k0; clear k0; simp only [zP, D]
 iterate 5 (refine V rfl fun _ k0 => ?_; simp only [zO, zT, acs, reduceCtorEq, J, D, M, U, O, S]; (repeat refine an ?_); (try refine .inl ?_); apply k0; clear k0; simp only [zP, D])
 refine aa ?_
 apply k7; clear k7; refine kp [0, 1, 2, 3, 5, 6, 7, 9, 10, 15] ?_
 refine Z fun _ k8 => ?_
 refine a9 hP hN rfl ?_
 iterate 2 (refine V rfl fun _ k0 => ?_; simp only [zO, zT, acs, reduceCtorEq, J, D, M, U, O, S]; (repeat refine an ?_); (try refine .inl ?_); apply k0; clear k0; simp only [zP, D])
 refine V rfl fun _ k0 => ?_
 refine ar (h := ah (kV ys (d8 p 47))) rfl rfl (by first | exact rfl | (simp only [ev, zP, J, D]; exact rfl)) (by simp only [zV, acs, reduceCtorEq, J, D, M, U, O, S]) ?_
 apply k0; clear k0; simp only [zP, D]
 iterate 5 (refine V rfl fun _ k0 => ?_; simp only [zO, zT, acs, reduceCtorEq, J, D, M, U, O, S]; (repeat refine an ?_); (try refine .inl ?_); apply k0; clear k0; simp only [zP, D])
 refine aa ?_
 apply k8; clear k8; refine kp [0, 1, 2, 3, 5, 6, 7, 9, 10, 11, 12, 15] ?_
 refine Z fun _ k9 => ?_
 refine Z fun _ k10 => ?_
 refine a9 hP hN rfl ?_
 iterate 3 (refine V rfl fun _ k0 => ?_; simp only [zO, zT, acs, reduceCtorEq, J, D, M, U, O, S]; (repeat refine an ?_); (try refine .inl ?_); apply k0; clear k0; simp only [zP, D])
 refine' aC (want := false) 2 rfl (m := 36) (by simp only [zP, J, D]; exact rfl) (by kernel_rfl) rfl rfl rfl rfl rfl (fun hg11 => ?a11) ?b11 ?c11
 case a11 =>
  have hq11 := hg11; (try simp only [zB, reduceCtorEq] at hg11); simp only [zE]
  iterate 2 (refine aO rfl fun _ k0 => ?_; simp only [zO, zT, acs, reduceCtorEq, J, D, M, U, O, S]; (repeat refine an ?_); (try refine .inl ?_); apply k0; clear k0; simp only [zP, D])
  (refine V rfl fun _ k0 => ?_; simp only [zO, zT, acs, reduceCtorEq, J, D, M, U, O, S]; (repeat refine an ?_); (try refine .inl ?_); apply k0; clear k0; simp only [zP, D])
  refine aa ?_
  refine ⟨by simp only [zP, J, D]; exact rfl, rfl, ?_, rfl⟩; (repeat refine aB rfl ?_); exact aQ (by exact rfl) hq11
 case b11 => exact bg
 simp only [aN, aG]
 refine aa ?_
 apply k10; clear k10; refine kp [0, 1, 2, 3, 5, 6, 7, 9, 10, 11, 12, 15, 39] ?_
 refine cd (fun hc12 => ?_) (fun hc12 => ?_)
 ·(try simp only [zB, reduceCtorEq] at hc12)
  have h8 := hc12
  refine Z fun _ k13 => ?_
  refine a9 hP hN rfl ?_
  (refine V rfl fun _ k0 => ?_; simp only [zO, zT, acs, reduceCtorEq, J, D, M, U, O, S]; (repeat refine an ?_); (try refine .inl ?_); apply k0; clear k0; simp only [zP, D])
  refine aa ?_
  apply k13; clear k13; refine kp [0, 1, 2, 3, 5, 6, 7, 9, 10, 11, 12, 15, 39] ?_
  refine ak ?_
  refine ⟨by first | exact .inl rfl | exact .inr rfl, _, rfl, ?_⟩; simp only [zP, J, D]
  first
  | (have hE := mL (xs := xs) (ys := ys) (p := p) (by omega)
     obtain ⟨e1, e2, e3⟩ := dL (xs := xs) (ys := ys) (p := p) (by rw [hE]; decide) v A
     obtain ⟨_, _, e4⟩ := dL (xs := xs) (ys := ys) (p := p) (by rw [hE]; decide) v B
     rw [hE, e1, e2, e4]; all_goals (first | exact ⟨rfl, rfl⟩ | rfl))
  | (have hE := mV (xs := xs) (ys := ys) (p := p) (by omega) h8
     obtain ⟨e1, e2, e3⟩ := dL (xs := xs) (ys := ys) (p := p) (by rw [hE]; decide) v A
     obtain ⟨_, _, e4⟩ := dL (xs := xs) (ys := ys) (p := p) (by rw [hE]; decide) v B
     rw [hE, e1, e2, e4]; all_goals (first | exact ⟨rfl, rfl⟩ | rfl))
  | (have hE := jL (xs := xs) (ys := ys) (p := p) (by omega) h0
     obtain ⟨e1, e2, e3⟩ := eG (xs := xs) (ys := ys) (p := p) hE v A
     obtain ⟨_, _, e4⟩ := eG (xs := xs) (ys := ys) (p := p) hE v B
     rw [hE, e1, e2, e4]; all_goals (first | exact ⟨rfl, rfl⟩ | rfl))
 (try simp only [zB, reduceCtorEq] at hc12)
 have h0 := hc12
 refine am ?_
 apply k9; clear k9; refine kp [0, 1, 2, 3, 5, 6, 7, 9, 10, 11, 12, 15, 39] ?_
 refine Z fun _ k14 => ?_
 refine bV hP hN Tryd.mixed rfl ?_
 iterate 14 (refine V rfl fun _ k0 => ?_; simp only [zO, zT, acs, reduceCtorEq, J, D, M, U, O, S]; (repeat refine an ?_); (try refine .inl ?_); apply k0; clear k0; simp only [zP, D])
 refine aa ?_
 refine ⟨by kernel_rfl, ?_⟩
 apply k14; clear k14; refine kp [0, 1, 2, 3, 5, 6, 7, 9, 10, 11, 12, 15, 39] ?_
 refine Z fun _ k15 => ?_
 refine a9 hP hN rfl ?_
 (refine V rfl fun _ k0 => ?_; simp only [zO, zT, acs, reduceCtorEq, J, D, M, U, O, S]; (repeat refine an ?_); (try refine .inl ?_); apply k0; clear k0; simp only [zP, D])
 refine aa ?_
 apply k15; clear k15; refine kp [0, 1, 2, 3, 5, 6, 7, 9, 10, 11, 12, 15, 39] ?_
 refine ak ?_
 refine ⟨by first | exact .inl rfl | exact .inr rfl, _, rfl, ?_⟩; simp only [zP, J, D]
 first
 | (have hE := mL (xs := xs) (ys := ys) (p := p) (by omega)
    obtain ⟨e1, e2, e3⟩ := dL (xs := xs) (ys := ys) (p := p) (by rw [hE]; decide) v A
    obtain ⟨_, _, e4⟩ := dL (xs := xs) (ys := ys) (p := p) (by rw [hE]; decide) v B
    rw [hE, e1, e2, e4]; all_goals (first | exact ⟨rfl, rfl⟩ | rfl))
 | (have hE := mV (xs := xs) (ys := ys) (p := p) (by omega) h8
    obtain ⟨e1, e2, e3⟩ := dL (xs := xs) (ys := ys) (p := p) (by rw [hE]; decide) v A
    obtain ⟨_, _, e4⟩ := dL (xs := xs) (ys := ys) (p := p) (by rw [hE]; decide) v B
    rw [hE, e1, e2, e4]; all_goals (first | exact ⟨rfl, rfl⟩ | rfl))
 | (have hE := jL (xs := xs) (ys := ys) (p := p) (by omega) h0
    obtain ⟨e1, e2, e3⟩ := eG (xs := xs) (ys := ys) (p := p) hE v A
    obtain ⟨_, _, e4⟩ := eG (xs := xs) (ys := ys) (p := p) hE v B
    rw [hE, e1, e2, e4]; all_goals (first | exact ⟨rfl, rfl⟩ | rfl))
open Go.Shelf in
def Tryd.lays143_ren : Go.Shelf.Ren := ⟨fun | 143 => 50 | 219 => 68 | 217 => 82 | 225 => 83 | 224 => 84 | 267 => 85 | 266 => 98 | 314 => 99 | n => n, fun | 9 => 9 | 3 => 3 | 4 => 4 | 5 => 5 | 46 => 122 | 146 => 132 | 51 => 131 | n => n, fun | 1 => 0 | n => n⟩
theorem Tryd.lays143 : Go.Proofs.Lays.n143 Tryd.prog Tryd.lays143_ren := {
  mixed := by kernel_rfl,
  f143 := Tryd.func50.trans (congrArg some (by kernel_rfl)),
  f217 := Tryd.func82.trans (congrArg some (by kernel_rfl)),
  f219 := Tryd.func68.trans (congrArg some (by kernel_rfl)),
  f224 := Tryd.func84.trans (congrArg some (by kernel_rfl)),
  f225 := Tryd.func83.trans (congrArg some (by kernel_rfl)),
  f266 := Tryd.func98.trans (congrArg some (by kernel_rfl)),
  f267 := Tryd.func85.trans (congrArg some (by kernel_rfl)),
  f314 := Tryd.func99.trans (congrArg some (by kernel_rfl)),
  t3 := Tryd.underlying3,
  a3 := Tryd.isAgg3,
  z3 := Tryd.sizeOf3,
  v3 := Tryd.zeroValue3,
  t4 := Tryd.underlying4,
  a4 := Tryd.isAgg4,
  z4 := Tryd.sizeOf4,
  v4 := Tryd.zeroValue4,
  t5 := Tryd.underlying5,
  a5 := Tryd.isAgg5,
  z5 := Tryd.sizeOf5,
  v5 := Tryd.zeroValue5,
  t9 := Tryd.underlying9,
  a9 := Tryd.isAgg9,
  z9 := Tryd.sizeOf9,
  v9 := Tryd.zeroValue9,
  t46 := Tryd.underlying122,
  a46 := Tryd.isAgg122,
  z46 := Tryd.sizeOf122,
  v46 := Tryd.zeroValue122,
  t51 := Tryd.underlying131,
  a51 := Tryd.isAgg131,
  z51 := Tryd.sizeOf131,
  v51 := Tryd.zeroValue131,
  t146 := Tryd.underlying132,
  a146 := Tryd.isAgg132,
  z146 := Tryd.sizeOf132,
  v146 := Tryd.zeroValue132,
  g1 := by kernel_rfl }
theorem sU (s : List UInt8) (c : UInt8) : aW Tryd.prog 50 [.one (.str s), .one (.str [c])] (.one (.int .i64 (Lib.indexByte s c))) := by
  refine ⟨⟨Tryd.f50, Tryd.func50, by kernel_rfl, by kernel_rfl⟩, fun C L σ w vs hP hi ha => ?_⟩
  match vs, ha with
  | [v1, v2], ⟨h1, h2, _⟩ =>
  have e1 : v1 = .string ⟨s.toArray⟩ := h1.2
  have e2 := h2.2
  subst e1
  simp only [RC0] at e2
  subst e2
  refine Calls.mono (Any.strings_Index_one Tryd.lays143 ⟨s.toArray⟩ c w) fun e w' hh => ?_
  obtain ⟨e1, e2⟩ := hh
  subst e2
  exact ⟨_, e1, MORE.refl _, rfl, rfl⟩
end Go.Proofs.YtfakhaagbimljaaDoor
