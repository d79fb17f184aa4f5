/- Contracts of functions of this seat, each out of a walk through its code, and plain facts on what they compute. Conditions: those that each theorem names. -/
import Derived.Test.YtoahhklogohehaaW05
set_option linter.unusedSimpArgs false
set_option linter.unusedVariables false
set_option maxRecDepth 100000
namespace Go.Proofs.Ytoahhklogohehaa
open Go Go.AV
open Nat renaming reduceEqDiff → aa, reduceAdd → V, reduceLeDiff → ad, reduceLT → ag, reduceMul → af, reduceSub → ae
open List renaming set_cons_zero → cT, set_cons_succ → cC, getD_cons_zero → ar, length_append → aq, map_cons → aJ, cons_append → aH, map_nil → bg, length_cons → au, nil_append → aZ, take_succ_cons → dQ, length_nil → aC, length_map → aD, length_replicate → bp, take_length → aE, mem_cons_self → aO, mem_cons_of_mem → aL
open Int renaming toNat_natCast → ah
set_option maxHeartbeats 4000000 in
theorem yQ (f : Nat) (m : Mly) (hm : MOK m) (IH : ∀ (ini cur w : List Int) (n : Nat) (fl : List Value), 4098 ≤ f + n → n ≤ 4097 → fl.length = n * 3 → cO m cur → ini.length = cur.length → 0 < cur.length → cur.length ≤ 1000 → dy m w → ez Try.prog [.rowc 52 3 n (dc fl)] 36 [m.av, .one (.list (.int .i64) ini), .one (.list (.int .i64) cur), .one (.list (.int .i64) w), .one (.rwc 0 n)] { av := .one (.rwc 0 (n + (dt m f ini cur w n).length)), upd := [(0, .rowc 52 3 (n + (dt m f ini cur w n).length) (dc fl ++ ndC (dt m f ini cur w n)))], fp := [0] }) (ini cur w : List Int) (n : Nat) (fl : List Value) (hf : 4098 ≤ (f + 1) + n) (hn : n ≤ 4097) (hfl : fl.length = n * 3) (hs : cO m cur) (hil : ini.length = cur.length) (h0 : 0 < cur.length) (hl : cur.length ≤ 1000) (hw : dy m w) : ez Try.prog [.rowc 52 3 n (dc fl)] 36 [m.av, .one (.list (.int .i64) ini), .one (.list (.int .i64) cur), .one (.list (.int .i64) w), .one (.rwc 0 n)] { av := .one (.rwc 0 (n + (dt m (f + 1) ini cur w n).length)), upd := [(0, .rowc 52 3 (n + (dt m (f + 1) ini cur w n).length) (dc fl ++ ndC (dt m (f + 1) ini cur w n)))], fp := [0] } := by
 refine kG _ _ Try.func36 rfl (by kernel_rfl) (Nat.le_of_ble_eq_true rfl) (by intro k hk; simp only [au, aC, Nat.zero_add, V] at hk; simp only [List.mem_cons, List.not_mem_nil, or_false]; omega) (fun C hP hN hB => ?_)
 replace hB : C.bL.length = 1 := by rw [hB]; rfl
 replace hN : C.N = 110 := hN
 simp only [bc, V]
 refine ai fun _ k1 => ?_
 refine ak hP hN rfl ?_
 iterate 2 (refine aj rfl fun _ k0 => ?_; simp only [zO, zT, acs, reduceCtorEq, aa, V, ad, ag, af, ae, Mly.av, ah, aw, aF, aq, ar]; (repeat refine And.intro (by first | omega | assumption | exact rfl | exact ⟨n, 1, ⟨rfl, rfl, by decide⟩, by omega, by omega⟩) ?_); (try refine .inl ?_); apply k0; clear k0; simp only [zP, V])
 refine am ?_
 apply k1; clear k1; refine kp [0, 1, 2, 3, 4, 5, 10] ?_
 refine ai fun _ k2 => ?_
 refine ai fun _ k3 => ?_
 have hdv : (dc fl).length / 3 = n := by rw [aw, hfl]; omega
 have hdv2 : fl.length / 3 = n := by omega
 have hxl : (dc fl).length = n * 3 := by rw [aw, hfl]
 refine ak hP hN rfl ?_
 iterate 3 (refine aj rfl fun _ k0 => ?_; simp only [zO, zT, acs, reduceCtorEq, aa, V, ad, ag, af, ae, Mly.av, ah, aw, aF, aq, ar, hdv, hdv2]; (repeat refine And.intro (by first | omega | assumption | exact rfl | exact ⟨n, 1, ⟨rfl, rfl, by decide⟩, by omega, by omega⟩) ?_); (try refine .inl ?_); apply k0; clear k0; simp only [zP, V])
 refine am ?_
 apply k3; clear k3; refine kp [0, 1, 2, 3, 4, 5, 10, 18] ?_
 refine cd (fun hc4 => ?_) (fun hc4 => ?_)
 ·(try simp only [zB, reduceCtorEq] at hc4)
  refine ai fun _ k5 => ?_
  refine ak hP hN rfl ?_
  iterate 2 (refine aj rfl fun _ k0 => ?_; simp only [zO, zT, acs, reduceCtorEq, aa, V, ad, ag, af, ae, Mly.av, ah, aw, aF, aq, ar]; (repeat refine And.intro (by first | omega | assumption | exact rfl | exact ⟨n, 1, ⟨rfl, rfl, by decide⟩, by omega, by omega⟩) ?_); (try refine .inl ?_); apply k0; clear k0; simp only [zP, V])
  refine am ?_
  apply k5; clear k5; refine kp [0, 1, 2, 3, 4, 5, 10, 18] ?_
  first
  | (refine cw 2 0 (t := kdT) rfl rfl ?_
     simp only [aJ, bg, um, zS, aa, and_self, and_true, true_and, and_false, false_and, if_true, if_false, eq_self, reduceCtorEq, Nat.one_ne_zero, Nat.zero_ne_one]
     refine cE [10] ?_
     simp only [bZ, lkp, zE, reduceCtorEq, aa]
     refine cF (n := 2) (L1 := [_, _]) rfl rfl (by rw [hB]; simp) rfl (by simp [cR, bt, bm, ca]) ?_
     refine cQ (L1 := [_]) rfl (by rw [hB]; exact Nat.le_refl _) rfl (by simp [cR, bt, bm, ca]) ?_)
  | (refine cE [10] ?_
     simp only [bZ, lkp, zE, reduceCtorEq, aa]
     refine cQ (L1 := [_]) rfl (by rw [hB]; exact Nat.le_refl _) rfl (by simp [cR, bt, bm, ca]) ?_)
  refine aG ?_
  refine ⟨by first | exact .inl rfl | exact .inr rfl, _, rfl, ?_⟩; simp only [zP, aa, V, Mly.av, ah, aw, aF, aq, ar]
  try refine ⟨?_, ?_⟩
  all_goals first
  | (rw [gC (by omega)]; simp [ndC, app, bH]; done)
  | (rw [gO (by omega) (hW.symm.trans hWn)]; all_goals rfl)
  | (rw [hie, aE] at hD
     rw [fP (by omega) hW.symm, hD, au, show n + (D.length + 1) = n + 1 + D.length by omega]; all_goals rfl)
 (try simp only [zB, reduceCtorEq] at hc4)
 refine ay ?_
 apply k2; clear k2; refine kp [0, 1, 2, 3, 4, 5, 10, 18] ?_
 refine ai fun _ k6 => ?_
 refine ak hP hN rfl ?_
 iterate 4 (refine aj rfl fun _ k0 => ?_; simp only [zO, zT, acs, reduceCtorEq, aa, V, ad, ag, af, ae, Mly.av, ah, aw, aF, aq, ar]; (repeat refine And.intro (by first | omega | assumption | exact rfl | exact ⟨n, 1, ⟨rfl, rfl, by decide⟩, by omega, by omega⟩) ?_); (try refine .inl ?_); apply k0; clear k0; simp only [zP, V])
 refine am ?_
 apply k6; clear k6; refine kp [0, 1, 2, 3, 4, 5, 10, 11, 18] ?_
 refine ai fun _ k7 => ?_
 refine ai fun _ k8 => ?_
 refine ak hP hN rfl ?_
 iterate 3 (refine aj rfl fun _ k0 => ?_; simp only [zO, zT, acs, reduceCtorEq, aa, V, ad, ag, af, ae, Mly.av, ah, aw, aF, aq, ar]; (repeat refine And.intro (by first | omega | assumption | exact rfl | exact ⟨n, 1, ⟨rfl, rfl, by decide⟩, by omega, by omega⟩) ?_); (try refine .inl ?_); apply k0; clear k0; simp only [zP, V])
 refine' aT (want := true) 3 rfl (m := 25) (by simp only [zP, aa, V]; exact rfl) (by kernel_rfl) rfl rfl rfl rfl rfl (fun hg9 => ?a9) ?b9 ?c9
 case a9 =>
  have hq9 := hg9; (try simp only [zB, reduceCtorEq] at hg9); simp only [zE]
  iterate 3 (refine bo rfl fun _ k0 => ?_; simp only [zO, zT, acs, reduceCtorEq, aa, V, ad, ag, af, ae, Mly.av, ah, aw, aF, aq, ar]; (repeat refine And.intro (by first | omega | assumption | exact rfl | exact ⟨n, 1, ⟨rfl, rfl, by decide⟩, by omega, by omega⟩) ?_); (try refine .inl ?_); apply k0; clear k0; simp only [zP, V])
  (refine aj rfl fun _ k0 => ?_; simp only [zO, zT, acs, reduceCtorEq, aa, V, ad, ag, af, ae, Mly.av, ah, aw, aF, aq, ar]; (repeat refine And.intro (by first | omega | assumption | exact rfl | exact ⟨n, 1, ⟨rfl, rfl, by decide⟩, by omega, by omega⟩) ?_); (try refine .inl ?_); apply k0; clear k0; simp only [zP, V])
  refine am ?_
  refine ⟨by simp only [zP, aa, V]; exact rfl, rfl, ?_, rfl⟩; (repeat refine aU rfl ?_); exact bu (by exact rfl) hq9
 case b9 => exact cJ
 simp only [bj, b6]
 refine am ?_
 apply k8; clear k8; refine kp [0, 1, 2, 3, 4, 5, 10, 11, 18, 29] ?_
 refine cd (fun hc10 => ?_) (fun hc10 => ?_)
 ·(try simp only [zB, reduceCtorEq] at hc10)
  refine ak hP hN rfl ?_
  iterate 2 (refine aj rfl fun _ k0 => ?_; simp only [zO, zT, acs, reduceCtorEq, aa, V, ad, ag, af, ae, Mly.av, ah, aw, aF, aq, ar]; (repeat refine And.intro (by first | omega | assumption | exact rfl | exact ⟨n, 1, ⟨rfl, rfl, by decide⟩, by omega, by omega⟩) ?_); (try refine .inl ?_); apply k0; clear k0; simp only [zP, V])
  refine aj rfl fun _ k0 => ?_
  refine aK (h := aB (yu m cur hm hs hl)) rfl rfl (by first | exact rfl | (simp only [ev, zP, aa, V]; exact rfl)) (by simp only [zV, acs, reduceCtorEq, aa, V, ad, ag, af, ae, Mly.av, ah, aw, aF, aq, ar]) ?_
  apply k0; clear k0; simp only [zP, V]
  iterate 5 (refine aj rfl fun _ k0 => ?_; simp only [zO, zT, acs, reduceCtorEq, aa, V, ad, ag, af, ae, Mly.av, ah, aw, aF, aq, ar]; (repeat refine And.intro (by first | omega | assumption | exact rfl | exact ⟨n, 1, ⟨rfl, rfl, by decide⟩, by omega, by omega⟩) ?_); (try refine .inl ?_); apply k0; clear k0; simp only [zP, V])
  refine am ?_
  apply k7; clear k7; refine kp [0, 1, 2, 3, 4, 5, 10, 11, 18, 29] ?_
  refine ai fun _ k11 => ?_
  obtain ⟨W, hW⟩ : ∃ W, W = dR m ini cur w := ⟨_, rfl⟩
  have hWs : dy m W := by rw [hW]; exact oy hw
  refine iF 3 (v' := .one (.list (.int .i64) W)) rfl (VLE.of_eq (by first | (show AV.one (.list (.int .i64) ((fdW m cur).getD [])) = _; rw [hW]; unfold dR; rw [if_pos (by omega)]; done) | (show AV.one (.list (.int .i64) w) = _; rw [hW]; unfold dR; rw [if_neg (by omega)]; done))) ?_
  refine iF 11 (v' := .one (.bool (decide (0 < W.length)))) rfl (VLE.of_eq (by first | (show AV.one (.bool (fdW m cur).isSome) = _; rw [hW, ru]; unfold dR; rw [if_pos (by omega)]; done) | (show AV.one (.bool (decide ((0 : Int) < (w.length : Int)))) = _; rw [hW]; unfold dR; rw [if_neg (by omega)]; congr 2; simp; done))) ?_
  refine ak hP hN rfl ?_
  iterate 3 (refine aj rfl fun _ k0 => ?_; simp only [zO, zT, acs, reduceCtorEq, aa, V, ad, ag, af, ae, Mly.av, ah, aw, aF, aq, ar, hdv2]; (repeat refine And.intro (by first | omega | assumption | exact rfl | exact ⟨n, 1, ⟨rfl, rfl, by decide⟩, by omega, by omega⟩) ?_); (try refine .inl ?_); apply k0; clear k0; simp only [zP, V])
  refine am ?_
  apply k11; clear k11; refine kp [0, 1, 2, 3, 4, 5, 10, 11, 12, 18, 29] ?_
  refine ai fun _ k12 => ?_
  refine ak hP hN rfl ?_
  iterate 3 (refine aj rfl fun _ k0 => ?_; simp only [zO, zT, acs, reduceCtorEq, aa, V, ad, ag, af, ae, Mly.av, ah, aw, aF, aq, ar, hxl, hfl]; (repeat refine And.intro (by first | omega | assumption | exact rfl | exact ⟨n, 1, ⟨rfl, rfl, by decide⟩, by omega, by omega⟩) ?_); (try refine .inl ?_); apply k0; clear k0; simp only [zP, V])
  (refine aj rfl fun _ k0 => ?_; simp only [zO, zT, acs, reduceCtorEq, aa, V, ad, ag, af, ae, Mly.av, ah, aw, aF, aq, ar, hxl, hfl]; (repeat refine And.intro (by first | omega | assumption | exact rfl | exact ⟨n, 1, ⟨rfl, rfl, by decide⟩, by omega, by omega⟩) ?_); refine Or.inr (Or.inr (Or.inr (Or.inl (k0 _ ?_)))); clear k0; simp only [zP, V])
  iterate 2 (refine aj rfl fun _ k0 => ?_; simp only [zO, zT, acs, reduceCtorEq, aa, V, ad, ag, af, ae, Mly.av, ah, aw, aF, aq, ar, hxl, hfl]; (repeat refine And.intro (by first | omega | assumption | exact rfl | exact ⟨n, 1, ⟨rfl, rfl, by decide⟩, by omega, by omega⟩) ?_); (try refine .inl ?_); apply k0; clear k0; simp only [zP, V])
  refine am ?_
  apply k12; clear k12; refine kp [0, 1, 2, 3, 4, 5, 10, 11, 12, 18, 29] ?_
  refine ai fun _ k13 => ?_
  refine ai fun _ k14 => ?_
  refine cQ (L1 := [_, _]) rfl (by rw [hB]; simp) rfl (by simp [cR, bt, bm]) ?_
  refine gn 0 (n * 3 + 2) kdT 58 (by decide) rfl (wA hxl) ?_
  simp only [zS, au, aC, aH, aZ, Nat.zero_add, V, vG hxl]
  have e9 : ∀ a b c : AC, [a, b, c] = a :: b :: c :: ndC [] := fun _ _ _ => rfl
  rw [e9 (.list (.int .i64) ini)]
  refine ak hP hN rfl ?_
  iterate 2 (refine aj rfl fun _ k0 => ?_; simp only [zO, zT, acs, reduceCtorEq, aa, V, ad, ag, af, ae, Mly.av, ah, aw, aF, aq, ar]; (repeat refine And.intro (by first | omega | assumption | exact rfl | exact ⟨n, 1, ⟨rfl, rfl, by decide⟩, by omega, by omega⟩) ?_); (try refine .inl ?_); apply k0; clear k0; simp only [zP, V])
  refine am ?_
  apply k14; clear k14; refine kp [0, 1, 2, 3, 4, 5, 10, 11, 12, 18, 29, 44] ?_
  refine cd (fun hc15 => ?_) (fun hc15 => ?_)
  ·(try simp only [zB, reduceCtorEq] at hc15)
   have hWn : W = [] := List.eq_nil_of_length_eq_zero (by have h9 := hc15; omega)
   refine ai fun _ k16 => ?_
   refine ak hP hN rfl ?_
   iterate 2 (refine aj rfl fun _ k0 => ?_; simp only [zO, zT, acs, reduceCtorEq, aa, V, ad, ag, af, ae, Mly.av, ah, aw, aF, aq, ar]; (repeat refine And.intro (by first | omega | assumption | exact rfl | exact ⟨n, 1, ⟨rfl, rfl, by decide⟩, by omega, by omega⟩) ?_); (try refine .inl ?_); apply k0; clear k0; simp only [zP, V])
   refine am ?_
   apply k16; clear k16; refine kp [0, 1, 2, 3, 4, 5, 10, 11, 12, 18, 29, 44] ?_
   first
   | (refine cw 2 0 (t := kdT) rfl rfl ?_
      simp only [aJ, bg, um, zS, aa, and_self, and_true, true_and, and_false, false_and, if_true, if_false, eq_self, reduceCtorEq, Nat.one_ne_zero, Nat.zero_ne_one]
      refine cE [10] ?_
      simp only [bZ, lkp, zE, reduceCtorEq, aa]
      refine cF (n := 2) (L1 := [_, _]) rfl rfl (by rw [hB]; simp) rfl (by simp [cR, bt, bm, ca]) ?_
      refine cQ (L1 := [_]) rfl (by rw [hB]; exact Nat.le_refl _) rfl (by simp [cR, bt, bm, ca]) ?_)
   | (refine cE [10] ?_
      simp only [bZ, lkp, zE, reduceCtorEq, aa]
      refine cQ (L1 := [_]) rfl (by rw [hB]; exact Nat.le_refl _) rfl (by simp [cR, bt, bm, ca]) ?_)
   refine aG ?_
   refine ⟨by first | exact .inl rfl | exact .inr rfl, _, rfl, ?_⟩; simp only [zP, aa, V, Mly.av, ah, aw, aF, aq, ar]
   try refine ⟨?_, ?_⟩
   all_goals first
   | (rw [gC (by omega)]; simp [ndC, app, bH]; done)
   | (rw [gO (by omega) (hW.symm.trans hWn)]; all_goals rfl)
   | (rw [hie, aE] at hD
      rw [fP (by omega) hW.symm, hD, au, show n + (D.length + 1) = n + 1 + D.length by omega]; all_goals rfl)
  (try simp only [zB, reduceCtorEq] at hc15)
  obtain ⟨a0, w2, hWc⟩ : ∃ a0 w2, W = a0 :: w2 := by
    cases W with
    | nil => simp at hc15
    | cons a0 w2 => exact ⟨_, _, rfl⟩
  subst hWc
  refine ay ?_
  apply k13; clear k13; refine kp [0, 1, 2, 3, 4, 5, 10, 11, 12, 18, 29, 44] ?_
  refine ai fun _ k17 => ?_
  have ha0 : 0 ≤ a0 ∧ a0 < m.inp := hWs a0 (aO ..)
  have hw2 : dy m w2 := fun x hx => hWs x (aL _ hx)
  refine ak hP hN rfl ?_
  iterate 8 (refine aj rfl fun _ k0 => ?_; simp only [zE, op1, ev, lkp, d6, bP, ci, zG, Ty.dflt, Ty.size, Nat.mul_one, ne_eq, not_false_eq_true, Int.natCast_one, Int.mul_one, d8, bQ, cI, acs, bV, bG, dM, cf, bq, reduceCtorEq, aa, V, ad, ag, af, ae, Try.el27, Try.el41, Try.st52, Try.td1, Try.td27, Try.td3, Try.td41, Try.td52, Mly.av, ah, aw, aF, aq, ar, hfl]; (repeat refine And.intro (by first | omega | assumption | exact rfl | exact ⟨n, 1, ⟨rfl, rfl, by decide⟩, by omega, by omega⟩) ?_); (try refine .inl ?_); apply k0; clear k0; simp only [zP, V, sO hxl])
  refine am ?_
  apply k17; clear k17; refine kp [0, 1, 2, 3, 4, 5, 10, 11, 12, 18, 29, 44] ?_
  refine ai fun _ k18 => ?_
  refine bf hP hN Try.mixed rfl ?_
  iterate 5 (refine aj rfl fun _ k0 => ?_; simp only [zO, zT, acs, reduceCtorEq, aa, V, ad, ag, af, ae, Mly.av, ah, aw, aF, aq, ar]; (repeat refine And.intro (by first | omega | assumption | exact rfl | exact ⟨n, 1, ⟨rfl, rfl, by decide⟩, by omega, by omega⟩) ?_); (try refine .inl ?_); apply k0; clear k0; simp only [zP, V])
  refine aj rfl fun _ k0 => ?_
  refine aK (h := aB (lM m cur a0 hm hs ha0 hl)) rfl rfl (by first | exact rfl | (simp only [ev, zP, aa, V]; exact rfl)) (by simp only [zV, acs, reduceCtorEq, aa, V, ad, ag, af, ae, Mly.av, ah, aw, aF, aq, ar]) ?_
  apply k0; clear k0; simp only [zP, V]
  (refine aj rfl fun _ k0 => ?_; simp only [zO, zT, acs, reduceCtorEq, aa, V, ad, ag, af, ae, Mly.av, ah, aw, aF, aq, ar]; (repeat refine And.intro (by first | omega | assumption | exact rfl | exact ⟨n, 1, ⟨rfl, rfl, by decide⟩, by omega, by omega⟩) ?_); (try refine .inl ?_); apply k0; clear k0; simp only [zP, V])
  refine am ?_
  refine ⟨by kernel_rfl, ?_⟩
  apply k18; clear k18; refine kp [0, 1, 2, 3, 4, 5, 10, 11, 12, 13, 18, 29, 44] ?_
  refine ai fun _ k19 => ?_
  refine ai fun _ k20 => ?_
  have hkl := eX (ouL m cur a0)
  have hol : (ouL m cur a0).length = cur.length := aD ..
  refine ak hP hN rfl ?_
  (refine aj rfl fun _ k0 => ?_; simp only [zO, zT, acs, reduceCtorEq, aa, V, ad, ag, af, ae, Mly.av, ah, aw, aF, aq, ar]; (repeat refine And.intro (by first | omega | assumption | exact rfl | exact ⟨n, 1, ⟨rfl, rfl, by decide⟩, by omega, by omega⟩) ?_); (try refine .inl ?_); apply k0; clear k0; simp only [zP, V])
  refine am ?_
  apply k20; clear k20; refine kp [0, 1, 2, 3, 4, 5, 10, 11, 12, 13, 14, 18, 29, 44] ?_
  refine az ?_
  refine ba (fun n21 s21 => ∃ (i : Nat) (D : List aX) (K : List dD), (i ≤ (aA (ouL m cur a0)).length) ∧ (((aA (ouL m cur a0)).take i).foldl (iq n (fun i c k => dt m f i c w2 k) m ini cur a0) ([], []) = (D, K)) ∧ (n + 1 + D.length ≤ 4097) ∧ (K.length ≤ i) ∧ n21 = (aA (ouL m cur a0)).length - i ∧ s21 = { env := [(1, .one (.list (.int .i64) ini)), (2, .one (.list (.int .i64) cur)), (3, .one (.list (.int .i64) (a0 :: w2))), (4, .one (.rwc 0 (n + 1 + D.length))), (5, .one (.ptr 1 0 0 0)), (10, .one .nils), (12, .one (.int .i64 (n : Int))), (13, .one (.list (.int .i64) (aA (ouL m cur a0)))), (14, .one (.int .i64 (i : Int)))], L := [.rowc 52 3 (n + 1 + D.length) (dc fl ++ .list (.int .i64) ini :: .int .i64 a0 :: .row 2 K.length :: ndC D), .vars 24 [.int .i64 m.inp, .int .i64 m.st, .list (.list (.int .i64)) m.nx, .list (.list (.int .i64)) m.ot], .row kdT 58 K.length K] }) ?_ ?_
  ·exact ⟨_, _, ax [1, 2, 3, 4, 5, 10, 12, 13, 14], 0, [], [], Nat.zero_le _, rfl, by simp only [aC]; omega, Nat.zero_le _, rfl, rfl⟩
  rintro n21 s21 ⟨i, D, K, hi, hD, hDl, hKl, rfl, rfl⟩
  refine ai fun _ k22 => ?_
  refine ai fun _ k23 => ?_
  refine ak hP hN rfl ?_
  iterate 4 (refine aj rfl fun _ k0 => ?_; simp only [zO, zT, acs, reduceCtorEq, aa, V, ad, ag, af, ae, Mly.av, ah, aw, aF, aq, ar]; (repeat refine And.intro (by first | omega | assumption | exact rfl | exact ⟨n, 1, ⟨rfl, rfl, by decide⟩, by omega, by omega⟩) ?_); (try refine .inl ?_); apply k0; clear k0; simp only [zP, V])
  refine am ?_
  apply k23; clear k23; refine kp [1, 2, 3, 4, 5, 10, 12, 13, 14, 62] ?_
  refine cd (fun hc24 => ?_) (fun hc24 => ?_)
  ·(try simp only [zB, reduceCtorEq] at hc24)
   refine ay ?_
   apply k22; clear k22; refine kp [1, 2, 3, 4, 5, 10, 12, 13, 14, 62] ?_
   refine ai fun _ k25 => ?_
   refine az ?_
   refine ai fun _ k26 => ?_
   have hin : ((aA (ouL m cur a0)).getD i 0) ∈ (aA (ouL m cur a0)) := bh (by omega)
   have hq1 := lL hm (o := ((aA (ouL m cur a0)).getD i 0)) ha0 hs
   have hq2 := gJ m ini cur a0 ((aA (ouL m cur a0)).getD i 0) cur.length
   have hq3 := jL hin
   have hq4 : (bE m cur a0 cur.length ((aA (ouL m cur a0)).getD i 0)).length ≤ 1000 := Nat.le_trans js hl
   have hptl := km m cur a0 ((aA (ouL m cur a0)).getD i 0) cur.length
   have hdvD : (n * 3 + (D.length * 3 + 1 + 1 + 1)) / 3 = n + 1 + D.length := by omega
   have hNle := mv m f (bU m ini cur a0 cur.length ((aA (ouL m cur a0)).getD i 0)) (bE m cur a0 cur.length ((aA (ouL m cur a0)).getD i 0)) w2 (n + 1 + D.length) (by omega)
   have hst9 := r0 (n := n) (rec := (fun i c k => dt m f i c w2 k)) (m := m) (ini := ini) (cur := cur) (a := a0) (i := i) (by omega) hD
   refine bf hP hN Try.mixed rfl ?_
   iterate 9 (refine aj rfl fun _ k0 => ?_; simp only [zO, zT, acs, reduceCtorEq, aa, V, ad, ag, af, ae, Mly.av, ah, aw, aF, aq, ar, au]; (repeat refine And.intro (by first | omega | assumption | exact rfl | exact ⟨n, 1, ⟨rfl, rfl, by decide⟩, by omega, by omega⟩) ?_); (try refine .inl ?_); apply k0; clear k0; simp only [zP, V])
   refine aj rfl fun _ k0 => ?_
   refine aK (h := aB (pV m cur a0 ((aA (ouL m cur a0)).getD i 0) hm hs ha0 hl)) rfl rfl (by first | exact rfl | (simp only [ev, zP, aa, V]; exact rfl)) (by simp only [zV, acs, reduceCtorEq, aa, V, ad, ag, af, ae, Mly.av, ah, aw, aF, aq, ar, au]) ?_
   apply k0; clear k0; simp only [zP, V]
   (refine aj rfl fun _ k0 => ?_; simp only [zO, zT, acs, reduceCtorEq, aa, V, ad, ag, af, ae, Mly.av, ah, aw, aF, aq, ar, au]; (repeat refine And.intro (by first | omega | assumption | exact rfl | exact ⟨n, 1, ⟨rfl, rfl, by decide⟩, by omega, by omega⟩) ?_); (try refine .inl ?_); apply k0; clear k0; simp only [zP, V])
   refine am ?_
   refine ⟨by kernel_rfl, ?_⟩
   apply k26; clear k26; refine kp [1, 2, 3, 4, 5, 10, 12, 13, 14, 15, 62] ?_
   refine ai fun _ k27 => ?_
   refine bf hP hN Try.mixed rfl ?_
   iterate 19 (refine aj rfl fun _ k0 => ?_; simp only [zE, op1, ev, lkp, d6, bP, ci, zG, Ty.dflt, Ty.size, Nat.mul_one, ne_eq, not_false_eq_true, Int.natCast_one, Int.mul_one, bG, d8, bQ, cI, acs, bV, cj, eT, eg, cM, db, eC, Nat.div_one, cL, df, bq, dite_true, gZ, cm, cf, dp, dA, rep, dM, reduceCtorEq, aa, V, ad, ag, af, ae, Try.el27, Try.el41, Try.el50, Try.fl58, Try.st52, Try.st58, Try.td1, Try.td2, Try.td27, Try.td3, Try.td41, Try.td50, Try.td52, Try.td58, Mly.av, ah, aw, aF, aq, ar, tD hxl, hfl, au, hdvD]; (repeat refine And.intro (by first | omega | assumption | exact rfl | exact ⟨n, 1, ⟨rfl, rfl, by decide⟩, by omega, by omega⟩) ?_); (try refine .inl ?_); apply k0; clear k0; simp only [zP, V, sS hxl])
   refine am ?_
   refine ⟨by kernel_rfl, ?_⟩
   apply k27; clear k27; refine kp [1, 2, 3, 4, 5, 10, 12, 13, 14, 15, 62] ?_
   refine bf hP hN Try.mixed rfl ?_
   iterate 3 (refine aj rfl fun _ k0 => ?_; simp only [zO, zT, acs, reduceCtorEq, aa, V, ad, ag, af, ae, Mly.av, ah, aw, aF, aq, ar, Int.toNat_one, au, aE, List.drop_succ_cons, List.drop_zero, dG, di]; (repeat refine And.intro (by first | omega | assumption | exact rfl | exact ⟨n, 1, ⟨rfl, rfl, by decide⟩, by omega, by omega⟩) ?_); (try refine .inl ?_); apply k0; clear k0; simp only [zP, V, List.append_assoc, aH, ← cG])
   refine aj rfl fun _ k0 => ?_
   refine aK (h := aB (jg ini (ptL m cur a0 ((aA (ouL m cur a0)).getD i 0) cur.length) (m5 hil) (by omega))) rfl rfl (by first | exact rfl | (simp only [ev, zP, aa, V]; exact rfl)) (by simp only [zV, acs, reduceCtorEq, aa, V, ad, ag, af, ae, Mly.av, ah, aw, aF, aq, ar, Int.toNat_one, au, aE, List.drop_succ_cons, List.drop_zero, dG, di]) ?_
   apply k0; clear k0; simp only [zP, V, List.append_assoc, aH, ← cG]
   iterate 3 (refine aj rfl fun _ k0 => ?_; simp only [zO, zT, acs, reduceCtorEq, aa, V, ad, ag, af, ae, Mly.av, ah, aw, aF, aq, ar, Int.toNat_one, au, aE, List.drop_succ_cons, List.drop_zero, dG, di]; (repeat refine And.intro (by first | omega | assumption | exact rfl | exact ⟨n, 1, ⟨rfl, rfl, by decide⟩, by omega, by omega⟩) ?_); (try refine .inl ?_); apply k0; clear k0; simp only [zP, V, List.append_assoc, aH, ← cG])
   refine aj rfl fun _ k0 => ?_
   refine aK (h := aB (jg cur (ptL m cur a0 ((aA (ouL m cur a0)).getD i 0) cur.length) (m5 rfl) (by omega))) rfl rfl (by first | exact rfl | (simp only [ev, zP, aa, V]; exact rfl)) (by simp only [zV, acs, reduceCtorEq, aa, V, ad, ag, af, ae, Mly.av, ah, aw, aF, aq, ar, Int.toNat_one, au, aE, List.drop_succ_cons, List.drop_zero, dG, di]) ?_
   apply k0; clear k0; simp only [zP, V, List.append_assoc, aH, ← cG]
   iterate 3 (refine aj rfl fun _ k0 => ?_; simp only [zO, zT, acs, reduceCtorEq, aa, V, ad, ag, af, ae, Mly.av, ah, aw, aF, aq, ar, Int.toNat_one, au, aE, List.drop_succ_cons, List.drop_zero, dG, di]; (repeat refine And.intro (by first | omega | assumption | exact rfl | exact ⟨n, 1, ⟨rfl, rfl, by decide⟩, by omega, by omega⟩) ?_); (try refine .inl ?_); apply k0; clear k0; simp only [zP, V, List.append_assoc, aH, ← cG])
   refine aj rfl fun _ k0 => ?_
   refine aK (h := aB (lP m (pkL cur (ptL m cur a0 ((aA (ouL m cur a0)).getD i 0) cur.length)) a0 hm (x4 hs) ha0 (by unfold pkL; rw [aD]; omega))) rfl rfl (by first | exact rfl | (simp only [ev, zP, aa, V]; exact rfl)) (by simp only [zV, acs, reduceCtorEq, aa, V, ad, ag, af, ae, Mly.av, ah, aw, aF, aq, ar, Int.toNat_one, au, aE, List.drop_succ_cons, List.drop_zero, dG, di]) ?_
   apply k0; clear k0; simp only [zP, V, List.append_assoc, aH, ← cG]
   (refine aj rfl fun _ k0 => ?_; simp only [zO, zT, acs, reduceCtorEq, aa, V, ad, ag, af, ae, Mly.av, ah, aw, aF, aq, ar, Int.toNat_one, au, aE, List.drop_succ_cons, List.drop_zero, dG, di]; (repeat refine And.intro (by first | omega | assumption | exact rfl | exact ⟨n, 1, ⟨rfl, rfl, by decide⟩, by omega, by omega⟩) ?_); (try refine .inl ?_); apply k0; clear k0; simp only [zP, V, List.append_assoc, aH, ← cG])
   (refine aj rfl fun _ k0 => ?_; simp only [zE, op1, ev, lkp, d6, bP, fD, bnd, Ty.size, reduceCtorEq, aa, V, ad, ag, af, ae, Try.el27, Try.el41, Try.td27, Try.td41, Mly.av, ah, aw, aF, aq, ar, Int.toNat_one, au, aE, List.drop_succ_cons, List.drop_zero, dG, di]; (repeat refine And.intro (by first | omega | assumption | exact rfl | exact ⟨n, 1, ⟨rfl, rfl, by decide⟩, by omega, by omega⟩) ?_); (try refine .inl ?_); apply k0; clear k0; simp only [zP, V, List.append_assoc, aH, ← cG])
   (refine aj rfl fun _ k0 => ?_; simp only [zO, zT, acs, reduceCtorEq, aa, V, ad, ag, af, ae, Mly.av, ah, aw, aF, aq, ar, Int.toNat_one, au, aE, List.drop_succ_cons, List.drop_zero, dG, di]; (repeat refine And.intro (by first | omega | assumption | exact rfl | exact ⟨n, 1, ⟨rfl, rfl, by decide⟩, by omega, by omega⟩) ?_); (try refine .inl ?_); apply k0; clear k0; simp only [zP, V, List.append_assoc, aH, ← cG])
   refine aj rfl fun _ k0 => ?_
   refine aK (h := i7 (k := 0) (u := []) rfl (by simp) (fun fl2 hfl2 => iK (A := [_]) (E := [_, _]) (IH (bU m ini cur a0 cur.length ((aA (ouL m cur a0)).getD i 0)) (bE m cur a0 cur.length ((aA (ouL m cur a0)).getD i 0)) w2 (n + 1 + D.length) fl2 (by omega) (by omega) (by rw [hfl2]; simp [aw, aF]; omega) hq1 hq2 hq3 hq4 hw2) (by simp [cR, bt, bm]) rfl rfl (by simp) (by intro k hk; simp at hk ⊢; omega))) rfl rfl (by first | exact rfl | (simp only [ev, zP, aa, V]; exact rfl)) (by simp only [zV, acs, reduceCtorEq, aa, V, ad, ag, af, ae, Mly.av, ah, aw, aF, aq, ar, Int.toNat_one, au, aE, List.drop_succ_cons, List.drop_zero, dG, di]) ?_
   apply k0; clear k0; simp only [zP, V, List.append_assoc, aH, ← cG]
   (refine aj rfl fun _ k0 => ?_; simp only [zO, zT, acs, reduceCtorEq, aa, V, ad, ag, af, ae, Mly.av, ah, aw, aF, aq, ar, Int.toNat_one, au, aE, List.drop_succ_cons, List.drop_zero, dG, di]; (repeat refine And.intro (by first | omega | assumption | exact rfl | exact ⟨n, 1, ⟨rfl, rfl, by decide⟩, by omega, by omega⟩) ?_); (try refine .inl ?_); apply k0; clear k0; simp only [zP, V, List.append_assoc, aH, ← cG])
   refine am ?_
   refine ⟨by kernel_rfl, ?_⟩
   apply k25; clear k25; refine kp [1, 2, 3, 4, 5, 10, 12, 13, 14, 15, 62] ?_
   refine ak hP hN rfl ?_
   iterate 3 (refine aj rfl fun _ k0 => ?_; simp only [zO, zT, acs, reduceCtorEq, aa, V, ad, ag, af, ae, Mly.av, ah, aw, aF, aq, ar]; (repeat refine And.intro (by first | omega | assumption | exact rfl | exact ⟨n, 1, ⟨rfl, rfl, by decide⟩, by omega, by omega⟩) ?_); (try refine .inl ?_); apply k0; clear k0; simp only [zP, V])
   refine am ?_
   refine ⟨_, _, ?_, ax [1, 2, 3, 4, 5, 10, 12, 13, 14], i + 1, D ++ (dt m f (bU m ini cur a0 cur.length ((aA (ouL m cur a0)).getD i 0)) (bE m cur a0 cur.length ((aA (ouL m cur a0)).getD i 0)) w2 (n + 1 + D.length)), K ++ [(((aA (ouL m cur a0)).getD i 0), ((n + 1 + D.length : Nat) : Int), ())], by omega, hst9, by rw [aq]; omega, by rw [aq]; simp only [au, aC]; omega, rfl, ?_⟩
   · omega
   · simp only [aq, ← Nat.add_assoc]; rfl
  (try simp only [zB, reduceCtorEq] at hc24)
  have hie : i = (aA (ouL m cur a0)).length := by omega
  refine aV ?_
  apply k19; clear k19; refine kp [1, 2, 3, 4, 5, 10, 12, 13, 14, 62] ?_
  refine ai fun _ k28 => ?_
  refine ak hP hN rfl ?_
  iterate 2 (refine aj rfl fun _ k0 => ?_; simp only [zO, zT, acs, reduceCtorEq, aa, V, ad, ag, af, ae, Mly.av, ah, aw, aF, aq, ar]; (repeat refine And.intro (by first | omega | assumption | exact rfl | exact ⟨n, 1, ⟨rfl, rfl, by decide⟩, by omega, by omega⟩) ?_); (try refine .inl ?_); apply k0; clear k0; simp only [zP, V])
  refine am ?_
  apply k28; clear k28; refine kp [1, 2, 3, 4, 5, 10, 12, 13, 14, 62] ?_
  first
  | (refine cw 2 0 (t := kdT) rfl rfl ?_
     simp only [aJ, bg, um, zS, aa, and_self, and_true, true_and, and_false, false_and, if_true, if_false, eq_self, reduceCtorEq, Nat.one_ne_zero, Nat.zero_ne_one]
     refine cE [10] ?_
     simp only [bZ, lkp, zE, reduceCtorEq, aa]
     refine cF (n := 2) (L1 := [_, _]) rfl rfl (by rw [hB]; simp) rfl (by simp [cR, bt, bm, ca]) ?_
     refine cQ (L1 := [_]) rfl (by rw [hB]; exact Nat.le_refl _) rfl (by simp [cR, bt, bm, ca]) ?_)
  | (refine cE [10] ?_
     simp only [bZ, lkp, zE, reduceCtorEq, aa]
     refine cQ (L1 := [_]) rfl (by rw [hB]; exact Nat.le_refl _) rfl (by simp [cR, bt, bm, ca]) ?_)
  refine aG ?_
  refine ⟨by first | exact .inl rfl | exact .inr rfl, _, rfl, ?_⟩; simp only [zP, aa, V, Mly.av, ah, aw, aF, aq, ar]
  try refine ⟨?_, ?_⟩
  all_goals first
  | (rw [gC (by omega)]; simp [ndC, app, bH]; done)
  | (rw [gO (by omega) (hW.symm.trans hWn)]; all_goals rfl)
  | (rw [hie, aE] at hD
     rw [fP (by omega) hW.symm, hD, au, show n + (D.length + 1) = n + 1 + D.length by omega]; all_goals rfl)
 (try simp only [zB, reduceCtorEq] at hc10)
 refine ay ?_
 apply k7; clear k7; refine kp [0, 1, 2, 3, 4, 5, 10, 11, 18, 29] ?_
 refine ai fun _ k29 => ?_
 obtain ⟨W, hW⟩ : ∃ W, W = dR m ini cur w := ⟨_, rfl⟩
 have hWs : dy m W := by rw [hW]; exact oy hw
 refine iF 3 (v' := .one (.list (.int .i64) W)) rfl (VLE.of_eq (by first | (show AV.one (.list (.int .i64) ((fdW m cur).getD [])) = _; rw [hW]; unfold dR; rw [if_pos (by omega)]; done) | (show AV.one (.list (.int .i64) w) = _; rw [hW]; unfold dR; rw [if_neg (by omega)]; done))) ?_
 refine iF 11 (v' := .one (.bool (decide (0 < W.length)))) rfl (VLE.of_eq (by first | (show AV.one (.bool (fdW m cur).isSome) = _; rw [hW, ru]; unfold dR; rw [if_pos (by omega)]; done) | (show AV.one (.bool (decide ((0 : Int) < (w.length : Int)))) = _; rw [hW]; unfold dR; rw [if_neg (by omega)]; congr 2; simp; done))) ?_
 refine ak hP hN rfl ?_
 iterate 3 (refine aj rfl fun _ k0 => ?_; simp only [zO, zT, acs, reduceCtorEq, aa, V, ad, ag, af, ae, Mly.av, ah, aw, aF, aq, ar, hdv2]; (repeat refine And.intro (by first | omega | assumption | exact rfl | exact ⟨n, 1, ⟨rfl, rfl, by decide⟩, by omega, by omega⟩) ?_); (try refine .inl ?_); apply k0; clear k0; simp only [zP, V])
 refine am ?_
 apply k29; clear k29; refine kp [0, 1, 2, 3, 4, 5, 10, 11, 12, 18, 29] ?_
 refine ai fun _ k30 => ?_
 refine ak hP hN rfl ?_
 iterate 3 (refine aj rfl fun _ k0 => ?_; simp only [zO, zT, acs, reduceCtorEq, aa, V, ad, ag, af, ae, Mly.av, ah, aw, aF, aq, ar, hxl, hfl]; (repeat refine And.intro (by first | omega | assumption | exact rfl | exact ⟨n, 1, ⟨rfl, rfl, by decide⟩, by omega, by omega⟩) ?_); (try refine .inl ?_); apply k0; clear k0; simp only [zP, V])
 (refine aj rfl fun _ k0 => ?_; simp only [zO, zT, acs, reduceCtorEq, aa, V, ad, ag, af, ae, Mly.av, ah, aw, aF, aq, ar, hxl, hfl]; (repeat refine And.intro (by first | omega | assumption | exact rfl | exact ⟨n, 1, ⟨rfl, rfl, by decide⟩, by omega, by omega⟩) ?_); refine Or.inr (Or.inr (Or.inr (Or.inl (k0 _ ?_)))); clear k0; simp only [zP, V])
 iterate 2 (refine aj rfl fun _ k0 => ?_; simp only [zO, zT, acs, reduceCtorEq, aa, V, ad, ag, af, ae, Mly.av, ah, aw, aF, aq, ar, hxl, hfl]; (repeat refine And.intro (by first | omega | assumption | exact rfl | exact ⟨n, 1, ⟨rfl, rfl, by decide⟩, by omega, by omega⟩) ?_); (try refine .inl ?_); apply k0; clear k0; simp only [zP, V])
 refine am ?_
 apply k30; clear k30; refine kp [0, 1, 2, 3, 4, 5, 10, 11, 12, 18, 29] ?_
 refine ai fun _ k31 => ?_
 refine ai fun _ k32 => ?_
 refine cQ (L1 := [_, _]) rfl (by rw [hB]; simp) rfl (by simp [cR, bt, bm]) ?_
 refine gn 0 (n * 3 + 2) kdT 58 (by decide) rfl (wA hxl) ?_
 simp only [zS, au, aC, aH, aZ, Nat.zero_add, V, vG hxl]
 have e9 : ∀ a b c : AC, [a, b, c] = a :: b :: c :: ndC [] := fun _ _ _ => rfl
 rw [e9 (.list (.int .i64) ini)]
 refine ak hP hN rfl ?_
 iterate 2 (refine aj rfl fun _ k0 => ?_; simp only [zO, zT, acs, reduceCtorEq, aa, V, ad, ag, af, ae, Mly.av, ah, aw, aF, aq, ar]; (repeat refine And.intro (by first | omega | assumption | exact rfl | exact ⟨n, 1, ⟨rfl, rfl, by decide⟩, by omega, by omega⟩) ?_); (try refine .inl ?_); apply k0; clear k0; simp only [zP, V])
 refine am ?_
 apply k32; clear k32; refine kp [0, 1, 2, 3, 4, 5, 10, 11, 12, 18, 29, 44] ?_
 refine cd (fun hc33 => ?_) (fun hc33 => ?_)
 ·(try simp only [zB, reduceCtorEq] at hc33)
  have hWn : W = [] := List.eq_nil_of_length_eq_zero (by have h9 := hc33; omega)
  refine ai fun _ k34 => ?_
  refine ak hP hN rfl ?_
  iterate 2 (refine aj rfl fun _ k0 => ?_; simp only [zO, zT, acs, reduceCtorEq, aa, V, ad, ag, af, ae, Mly.av, ah, aw, aF, aq, ar]; (repeat refine And.intro (by first | omega | assumption | exact rfl | exact ⟨n, 1, ⟨rfl, rfl, by decide⟩, by omega, by omega⟩) ?_); (try refine .inl ?_); apply k0; clear k0; simp only [zP, V])
  refine am ?_
  apply k34; clear k34; refine kp [0, 1, 2, 3, 4, 5, 10, 11, 12, 18, 29, 44] ?_
  first
  | (refine cw 2 0 (t := kdT) rfl rfl ?_
     simp only [aJ, bg, um, zS, aa, and_self, and_true, true_and, and_false, false_and, if_true, if_false, eq_self, reduceCtorEq, Nat.one_ne_zero, Nat.zero_ne_one]
     refine cE [10] ?_
     simp only [bZ, lkp, zE, reduceCtorEq, aa]
     refine cF (n := 2) (L1 := [_, _]) rfl rfl (by rw [hB]; simp) rfl (by simp [cR, bt, bm, ca]) ?_
     refine cQ (L1 := [_]) rfl (by rw [hB]; exact Nat.le_refl _) rfl (by simp [cR, bt, bm, ca]) ?_)
  | (refine cE [10] ?_
     simp only [bZ, lkp, zE, reduceCtorEq, aa]
     refine cQ (L1 := [_]) rfl (by rw [hB]; exact Nat.le_refl _) rfl (by simp [cR, bt, bm, ca]) ?_)
  refine aG ?_
  refine ⟨by first | exact .inl rfl | exact .inr rfl, _, rfl, ?_⟩; simp only [zP, aa, V, Mly.av, ah, aw, aF, aq, ar]
  try refine ⟨?_, ?_⟩
  all_goals first
  | (rw [gC (by omega)]; simp [ndC, app, bH]; done)
  | (rw [gO (by omega) (hW.symm.trans hWn)]; all_goals rfl)
  | (rw [hie, aE] at hD
     rw [fP (by omega) hW.symm, hD, au, show n + (D.length + 1) = n + 1 + D.length by omega]; all_goals rfl)
 (try simp only [zB, reduceCtorEq] at hc33)
 obtain ⟨a0, w2, hWc⟩ : ∃ a0 w2, W = a0 :: w2 := by
   cases W with
   | nil => simp at hc33
   | cons a0 w2 => exact ⟨_, _, rfl⟩
 subst hWc
 refine ay ?_
 apply k31; clear k31; refine kp [0, 1, 2, 3, 4, 5, 10, 11, 12, 18, 29, 44] ?_
 refine ai fun _ k35 => ?_
 have ha0 : 0 ≤ a0 ∧ a0 < m.inp := hWs a0 (aO ..)
 have hw2 : dy m w2 := fun x hx => hWs x (aL _ hx)
 refine ak hP hN rfl ?_
 iterate 8 (refine aj rfl fun _ k0 => ?_; simp only [zE, op1, ev, lkp, d6, bP, ci, zG, Ty.dflt, Ty.size, Nat.mul_one, ne_eq, not_false_eq_true, Int.natCast_one, Int.mul_one, d8, bQ, cI, acs, bV, bG, dM, cf, bq, reduceCtorEq, aa, V, ad, ag, af, ae, Try.el27, Try.el41, Try.st52, Try.td1, Try.td27, Try.td3, Try.td41, Try.td52, Mly.av, ah, aw, aF, aq, ar, hfl]; (repeat refine And.intro (by first | omega | assumption | exact rfl | exact ⟨n, 1, ⟨rfl, rfl, by decide⟩, by omega, by omega⟩) ?_); (try refine .inl ?_); apply k0; clear k0; simp only [zP, V, sO hxl])
 refine am ?_
 apply k35; clear k35; refine kp [0, 1, 2, 3, 4, 5, 10, 11, 12, 18, 29, 44] ?_
 refine ai fun _ k36 => ?_
 refine bf hP hN Try.mixed rfl ?_
 iterate 5 (refine aj rfl fun _ k0 => ?_; simp only [zO, zT, acs, reduceCtorEq, aa, V, ad, ag, af, ae, Mly.av, ah, aw, aF, aq, ar]; (repeat refine And.intro (by first | omega | assumption | exact rfl | exact ⟨n, 1, ⟨rfl, rfl, by decide⟩, by omega, by omega⟩) ?_); (try refine .inl ?_); apply k0; clear k0; simp only [zP, V])
 refine aj rfl fun _ k0 => ?_
 refine aK (h := aB (lM m cur a0 hm hs ha0 hl)) rfl rfl (by first | exact rfl | (simp only [ev, zP, aa, V]; exact rfl)) (by simp only [zV, acs, reduceCtorEq, aa, V, ad, ag, af, ae, Mly.av, ah, aw, aF, aq, ar]) ?_
 apply k0; clear k0; simp only [zP, V]
 (refine aj rfl fun _ k0 => ?_; simp only [zO, zT, acs, reduceCtorEq, aa, V, ad, ag, af, ae, Mly.av, ah, aw, aF, aq, ar]; (repeat refine And.intro (by first | omega | assumption | exact rfl | exact ⟨n, 1, ⟨rfl, rfl, by decide⟩, by omega, by omega⟩) ?_); (try refine .inl ?_); apply k0; clear k0; simp only [zP, V])
 refine am ?_
 refine ⟨by kernel_rfl, ?_⟩
 apply k36; clear k36; refine kp [0, 1, 2, 3, 4, 5, 10, 11, 12, 13, 18, 29, 44] ?_
 refine ai fun _ k37 => ?_
 refine ai fun _ k38 => ?_
 have hkl := eX (ouL m cur a0)
 have hol : (ouL m cur a0).length = cur.length := aD ..
 refine ak hP hN rfl ?_
 (refine aj rfl fun _ k0 => ?_; simp only [zO, zT, acs, reduceCtorEq, aa, V, ad, ag, af, ae, Mly.av, ah, aw, aF, aq, ar]; (repeat refine And.intro (by first | omega | assumption | exact rfl | exact ⟨n, 1, ⟨rfl, rfl, by decide⟩, by omega, by omega⟩) ?_); (try refine .inl ?_); apply k0; clear k0; simp only [zP, V])
 refine am ?_
 apply k38; clear k38; refine kp [0, 1, 2, 3, 4, 5, 10, 11, 12, 13, 14, 18, 29, 44] ?_
 refine az ?_
 refine ba (fun n39 s39 => ∃ (i : Nat) (D : List aX) (K : List dD), (i ≤ (aA (ouL m cur a0)).length) ∧ (((aA (ouL m cur a0)).take i).foldl (iq n (fun i c k => dt m f i c w2 k) m ini cur a0) ([], []) = (D, K)) ∧ (n + 1 + D.length ≤ 4097) ∧ (K.length ≤ i) ∧ n39 = (aA (ouL m cur a0)).length - i ∧ s39 = { env := [(1, .one (.list (.int .i64) ini)), (2, .one (.list (.int .i64) cur)), (3, .one (.list (.int .i64) (a0 :: w2))), (4, .one (.rwc 0 (n + 1 + D.length))), (5, .one (.ptr 1 0 0 0)), (10, .one .nils), (12, .one (.int .i64 (n : Int))), (13, .one (.list (.int .i64) (aA (ouL m cur a0)))), (14, .one (.int .i64 (i : Int)))], L := [.rowc 52 3 (n + 1 + D.length) (dc fl ++ .list (.int .i64) ini :: .int .i64 a0 :: .row 2 K.length :: ndC D), .vars 24 [.int .i64 m.inp, .int .i64 m.st, .list (.list (.int .i64)) m.nx, .list (.list (.int .i64)) m.ot], .row kdT 58 K.length K] }) ?_ ?_
 ·exact ⟨_, _, ax [1, 2, 3, 4, 5, 10, 12, 13, 14], 0, [], [], Nat.zero_le _, rfl, by simp only [aC]; omega, Nat.zero_le _, rfl, rfl⟩
 rintro n39 s39 ⟨i, D, K, hi, hD, hDl, hKl, rfl, rfl⟩
 refine ai fun _ k40 => ?_
 refine ai fun _ k41 => ?_
 refine ak hP hN rfl ?_
 iterate 4 (refine aj rfl fun _ k0 => ?_; simp only [zO, zT, acs, reduceCtorEq, aa, V, ad, ag, af, ae, Mly.av, ah, aw, aF, aq, ar]; (repeat refine And.intro (by first | omega | assumption | exact rfl | exact ⟨n, 1, ⟨rfl, rfl, by decide⟩, by omega, by omega⟩) ?_); (try refine .inl ?_); apply k0; clear k0; simp only [zP, V])
 refine am ?_
 apply k41; clear k41; refine kp [1, 2, 3, 4, 5, 10, 12, 13, 14, 62] ?_
 refine cd (fun hc42 => ?_) (fun hc42 => ?_)
 ·(try simp only [zB, reduceCtorEq] at hc42)
  refine ay ?_
  apply k40; clear k40; refine kp [1, 2, 3, 4, 5, 10, 12, 13, 14, 62] ?_
  refine ai fun _ k43 => ?_
  refine az ?_
  refine ai fun _ k44 => ?_
  have hin : ((aA (ouL m cur a0)).getD i 0) ∈ (aA (ouL m cur a0)) := bh (by omega)
  have hq1 := lL hm (o := ((aA (ouL m cur a0)).getD i 0)) ha0 hs
  have hq2 := gJ m ini cur a0 ((aA (ouL m cur a0)).getD i 0) cur.length
  have hq3 := jL hin
  have hq4 : (bE m cur a0 cur.length ((aA (ouL m cur a0)).getD i 0)).length ≤ 1000 := Nat.le_trans js hl
  have hptl := km m cur a0 ((aA (ouL m cur a0)).getD i 0) cur.length
  have hdvD : (n * 3 + (D.length * 3 + 1 + 1 + 1)) / 3 = n + 1 + D.length := by omega
  have hNle := mv m f (bU m ini cur a0 cur.length ((aA (ouL m cur a0)).getD i 0)) (bE m cur a0 cur.length ((aA (ouL m cur a0)).getD i 0)) w2 (n + 1 + D.length) (by omega)
  have hst9 := r0 (n := n) (rec := (fun i c k => dt m f i c w2 k)) (m := m) (ini := ini) (cur := cur) (a := a0) (i := i) (by omega) hD
  refine bf hP hN Try.mixed rfl ?_
  iterate 9 (refine aj rfl fun _ k0 => ?_; simp only [zO, zT, acs, reduceCtorEq, aa, V, ad, ag, af, ae, Mly.av, ah, aw, aF, aq, ar, au]; (repeat refine And.intro (by first | omega | assumption | exact rfl | exact ⟨n, 1, ⟨rfl, rfl, by decide⟩, by omega, by omega⟩) ?_); (try refine .inl ?_); apply k0; clear k0; simp only [zP, V])
  refine aj rfl fun _ k0 => ?_
  refine aK (h := aB (pV m cur a0 ((aA (ouL m cur a0)).getD i 0) hm hs ha0 hl)) rfl rfl (by first | exact rfl | (simp only [ev, zP, aa, V]; exact rfl)) (by simp only [zV, acs, reduceCtorEq, aa, V, ad, ag, af, ae, Mly.av, ah, aw, aF, aq, ar, au]) ?_
  apply k0; clear k0; simp only [zP, V]
  (refine aj rfl fun _ k0 => ?_; simp only [zO, zT, acs, reduceCtorEq, aa, V, ad, ag, af, ae, Mly.av, ah, aw, aF, aq, ar, au]; (repeat refine And.intro (by first | omega | assumption | exact rfl | exact ⟨n, 1, ⟨rfl, rfl, by decide⟩, by omega, by omega⟩) ?_); (try refine .inl ?_); apply k0; clear k0; simp only [zP, V])
  refine am ?_
  refine ⟨by kernel_rfl, ?_⟩
  apply k44; clear k44; refine kp [1, 2, 3, 4, 5, 10, 12, 13, 14, 15, 62] ?_
  refine ai fun _ k45 => ?_
  refine bf hP hN Try.mixed rfl ?_
  iterate 19 (refine aj rfl fun _ k0 => ?_; simp only [zE, op1, ev, lkp, d6, bP, ci, zG, Ty.dflt, Ty.size, Nat.mul_one, ne_eq, not_false_eq_true, Int.natCast_one, Int.mul_one, bG, d8, bQ, cI, acs, bV, cj, eT, eg, cM, db, eC, Nat.div_one, cL, df, bq, dite_true, gZ, cm, cf, dp, dA, rep, dM, reduceCtorEq, aa, V, ad, ag, af, ae, Try.el27, Try.el41, Try.el50, Try.fl58, Try.st52, Try.st58, Try.td1, Try.td2, Try.td27, Try.td3, Try.td41, Try.td50, Try.td52, Try.td58, Mly.av, ah, aw, aF, aq, ar, tD hxl, hfl, au, hdvD]; (repeat refine And.intro (by first | omega | assumption | exact rfl | exact ⟨n, 1, ⟨rfl, rfl, by decide⟩, by omega, by omega⟩) ?_); (try refine .inl ?_); apply k0; clear k0; simp only [zP, V, sS hxl])
  refine am ?_
  refine ⟨by kernel_rfl, ?_⟩
  apply k45; clear k45; refine kp [1, 2, 3, 4, 5, 10, 12, 13, 14, 15, 62] ?_
  refine bf hP hN Try.mixed rfl ?_
  iterate 3 (refine aj rfl fun _ k0 => ?_; simp only [zO, zT, acs, reduceCtorEq, aa, V, ad, ag, af, ae, Mly.av, ah, aw, aF, aq, ar, Int.toNat_one, au, aE, List.drop_succ_cons, List.drop_zero, dG, di]; (repeat refine And.intro (by first | omega | assumption | exact rfl | exact ⟨n, 1, ⟨rfl, rfl, by decide⟩, by omega, by omega⟩) ?_); (try refine .inl ?_); apply k0; clear k0; simp only [zP, V, List.append_assoc, aH, ← cG])
  refine aj rfl fun _ k0 => ?_
  refine aK (h := aB (jg ini (ptL m cur a0 ((aA (ouL m cur a0)).getD i 0) cur.length) (m5 hil) (by omega))) rfl rfl (by first | exact rfl | (simp only [ev, zP, aa, V]; exact rfl)) (by simp only [zV, acs, reduceCtorEq, aa, V, ad, ag, af, ae, Mly.av, ah, aw, aF, aq, ar, Int.toNat_one, au, aE, List.drop_succ_cons, List.drop_zero, dG, di]) ?_
  apply k0; clear k0; simp only [zP, V, List.append_assoc, aH, ← cG]
  iterate 3 (refine aj rfl fun _ k0 => ?_; simp only [zO, zT, acs, reduceCtorEq, aa, V, ad, ag, af, ae, Mly.av, ah, aw, aF, aq, ar, Int.toNat_one, au, aE, List.drop_succ_cons, List.drop_zero, dG, di]; (repeat refine And.intro (by first | omega | assumption | exact rfl | exact ⟨n, 1, ⟨rfl, rfl, by decide⟩, by omega, by omega⟩) ?_); (try refine .inl ?_); apply k0; clear k0; simp only [zP, V, List.append_assoc, aH, ← cG])
  refine aj rfl fun _ k0 => ?_
  refine aK (h := aB (jg cur (ptL m cur a0 ((aA (ouL m cur a0)).getD i 0) cur.length) (m5 rfl) (by omega))) rfl rfl (by first | exact rfl | (simp only [ev, zP, aa, V]; exact rfl)) (by simp only [zV, acs, reduceCtorEq, aa, V, ad, ag, af, ae, Mly.av, ah, aw, aF, aq, ar, Int.toNat_one, au, aE, List.drop_succ_cons, List.drop_zero, dG, di]) ?_
  apply k0; clear k0; simp only [zP, V, List.append_assoc, aH, ← cG]
  iterate 3 (refine aj rfl fun _ k0 => ?_; simp only [zO, zT, acs, reduceCtorEq, aa, V, ad, ag, af, ae, Mly.av, ah, aw, aF, aq, ar, Int.toNat_one, au, aE, List.drop_succ_cons, List.drop_zero, dG, di]; (repeat refine And.intro (by first | omega | assumption | exact rfl | exact ⟨n, 1, ⟨rfl, rfl, by decide⟩, by omega, by omega⟩) ?_); (try refine .inl ?_); apply k0; clear k0; simp only [zP, V, List.append_assoc, aH, ← cG])
  refine aj rfl fun _ k0 => ?_
  refine aK (h := aB (lP m (pkL cur (ptL m cur a0 ((aA (ouL m cur a0)).getD i 0) cur.length)) a0 hm (x4 hs) ha0 (by unfold pkL; rw [aD]; omega))) rfl rfl (by first | exact rfl | (simp only [ev, zP, aa, V]; exact rfl)) (by simp only [zV, acs, reduceCtorEq, aa, V, ad, ag, af, ae, Mly.av, ah, aw, aF, aq, ar, Int.toNat_one, au, aE, List.drop_succ_cons, List.drop_zero, dG, di]) ?_
  apply k0; clear k0; simp only [zP, V, List.append_assoc, aH, ← cG]
  (refine aj rfl fun _ k0 => ?_; simp only [zO, zT, acs, reduceCtorEq, aa, V, ad, ag, af, ae, Mly.av, ah, aw, aF, aq, ar, Int.toNat_one, au, aE, List.drop_succ_cons, List.drop_zero, dG, di]; (repeat refine And.intro (by first | omega | assumption | exact rfl | exact ⟨n, 1, ⟨rfl, rfl, by decide⟩, by omega, by omega⟩) ?_); (try refine .inl ?_); apply k0; clear k0; simp only [zP, V, List.append_assoc, aH, ← cG])
  (refine aj rfl fun _ k0 => ?_; simp only [zE, op1, ev, lkp, d6, bP, fD, bnd, Ty.size, reduceCtorEq, aa, V, ad, ag, af, ae, Try.el27, Try.el41, Try.td27, Try.td41, Mly.av, ah, aw, aF, aq, ar, Int.toNat_one, au, aE, List.drop_succ_cons, List.drop_zero, dG, di]; (repeat refine And.intro (by first | omega | assumption | exact rfl | exact ⟨n, 1, ⟨rfl, rfl, by decide⟩, by omega, by omega⟩) ?_); (try refine .inl ?_); apply k0; clear k0; simp only [zP, V, List.append_assoc, aH, ← cG])
  (refine aj rfl fun _ k0 => ?_; simp only [zO, zT, acs, reduceCtorEq, aa, V, ad, ag, af, ae, Mly.av, ah, aw, aF, aq, ar, Int.toNat_one, au, aE, List.drop_succ_cons, List.drop_zero, dG, di]; (repeat refine And.intro (by first | omega | assumption | exact rfl | exact ⟨n, 1, ⟨rfl, rfl, by decide⟩, by omega, by omega⟩) ?_); (try refine .inl ?_); apply k0; clear k0; simp only [zP, V, List.append_assoc, aH, ← cG])
  refine aj rfl fun _ k0 => ?_
  refine aK (h := i7 (k := 0) (u := []) rfl (by simp) (fun fl2 hfl2 => iK (A := [_]) (E := [_, _]) (IH (bU m ini cur a0 cur.length ((aA (ouL m cur a0)).getD i 0)) (bE m cur a0 cur.length ((aA (ouL m cur a0)).getD i 0)) w2 (n + 1 + D.length) fl2 (by omega) (by omega) (by rw [hfl2]; simp [aw, aF]; omega) hq1 hq2 hq3 hq4 hw2) (by simp [cR, bt, bm]) rfl rfl (by simp) (by intro k hk; simp at hk ⊢; omega))) rfl rfl (by first | exact rfl | (simp only [ev, zP, aa, V]; exact rfl)) (by simp only [zV, acs, reduceCtorEq, aa, V, ad, ag, af, ae, Mly.av, ah, aw, aF, aq, ar, Int.toNat_one, au, aE, List.drop_succ_cons, List.drop_zero, dG, di]) ?_
  apply k0; clear k0; simp only [zP, V, List.append_assoc, aH, ← cG]
  (refine aj rfl fun _ k0 => ?_; simp only [zO, zT, acs, reduceCtorEq, aa, V, ad, ag, af, ae, Mly.av, ah, aw, aF, aq, ar, Int.toNat_one, au, aE, List.drop_succ_cons, List.drop_zero, dG, di]; (repeat refine And.intro (by first | omega | assumption | exact rfl | exact ⟨n, 1, ⟨rfl, rfl, by decide⟩, by omega, by omega⟩) ?_); (try refine .inl ?_); apply k0; clear k0; simp only [zP, V, List.append_assoc, aH, ← cG])
  refine am ?_
  refine ⟨by kernel_rfl, ?_⟩
  apply k43; clear k43; refine kp [1, 2, 3, 4, 5, 10, 12, 13, 14, 15, 62] ?_
  refine ak hP hN rfl ?_
  iterate 3 (refine aj rfl fun _ k0 => ?_; simp only [zO, zT, acs, reduceCtorEq, aa, V, ad, ag, af, ae, Mly.av, ah, aw, aF, aq, ar]; (repeat refine And.intro (by first | omega | assumption | exact rfl | exact ⟨n, 1, ⟨rfl, rfl, by decide⟩, by omega, by omega⟩) ?_); (try refine .inl ?_); apply k0; clear k0; simp only [zP, V])
  refine am ?_
  refine ⟨_, _, ?_, ax [1, 2, 3, 4, 5, 10, 12, 13, 14], i + 1, D ++ (dt m f (bU m ini cur a0 cur.length ((aA (ouL m cur a0)).getD i 0)) (bE m cur a0 cur.length ((aA (ouL m cur a0)).getD i 0)) w2 (n + 1 + D.length)), K ++ [(((aA (ouL m cur a0)).getD i 0), ((n + 1 + D.length : Nat) : Int), ())], by omega, hst9, by rw [aq]; omega, by rw [aq]; simp only [au, aC]; omega, rfl, ?_⟩
  · omega
  · simp only [aq, ← Nat.add_assoc]; rfl
 (try simp only [zB, reduceCtorEq] at hc42)
 have hie : i = (aA (ouL m cur a0)).length := by omega
 refine aV ?_
 apply k37; clear k37; refine kp [1, 2, 3, 4, 5, 10, 12, 13, 14, 62] ?_
 refine ai fun _ k46 => ?_
 refine ak hP hN rfl ?_
 iterate 2 (refine aj rfl fun _ k0 => ?_; simp only [zO, zT, acs, reduceCtorEq, aa, V, ad, ag, af, ae, Mly.av, ah, aw, aF, aq, ar]; (repeat refine And.intro (by first | omega | assumption | exact rfl | exact ⟨n, 1, ⟨rfl, rfl, by decide⟩, by omega, by omega⟩) ?_); (try refine .inl ?_); apply k0; clear k0; simp only [zP, V])
 refine am ?_
 apply k46; clear k46; refine kp [1, 2, 3, 4, 5, 10, 12, 13, 14, 62] ?_
 first
 | (refine cw 2 0 (t := kdT) rfl rfl ?_
    simp only [aJ, bg, um, zS, aa, and_self, and_true, true_and, and_false, false_and, if_true, if_false, eq_self, reduceCtorEq, Nat.one_ne_zero, Nat.zero_ne_one]
    refine cE [10] ?_
    simp only [bZ, lkp, zE, reduceCtorEq, aa]
    refine cF (n := 2) (L1 := [_, _]) rfl rfl (by rw [hB]; simp) rfl (by simp [cR, bt, bm, ca]) ?_
    refine cQ (L1 := [_]) rfl (by rw [hB]; exact Nat.le_refl _) rfl (by simp [cR, bt, bm, ca]) ?_)
 | (refine cE [10] ?_
    simp only [bZ, lkp, zE, reduceCtorEq, aa]
    refine cQ (L1 := [_]) rfl (by rw [hB]; exact Nat.le_refl _) rfl (by simp [cR, bt, bm, ca]) ?_)
 refine aG ?_
 refine ⟨by first | exact .inl rfl | exact .inr rfl, _, rfl, ?_⟩; simp only [zP, aa, V, Mly.av, ah, aw, aF, aq, ar]
 try refine ⟨?_, ?_⟩
 all_goals first
 | (rw [gC (by omega)]; simp [ndC, app, bH]; done)
 | (rw [gO (by omega) (hW.symm.trans hWn)]; all_goals rfl)
 | (rw [hie, aE] at hD
    rw [fP (by omega) hW.symm, hD, au, show n + (D.length + 1) = n + 1 + D.length by omega]; all_goals rfl)
theorem uc (m : Mly) (hm : MOK m) : ∀ (f : Nat) (ini cur w : List Int) (n : Nat) (fl : List Value), 4098 ≤ f + n → n ≤ 4097 → fl.length = n * 3 → cO m cur → ini.length = cur.length → 0 < cur.length → cur.length ≤ 1000 → dy m w → ez Try.prog [.rowc 52 3 n (dc fl)] 36 [m.av, .one (.list (.int .i64) ini), .one (.list (.int .i64) cur), .one (.list (.int .i64) w), .one (.rwc 0 n)] { av := .one (.rwc 0 (n + (dt m f ini cur w n).length)), upd := [(0, .rowc 52 3 (n + (dt m f ini cur w n).length) (dc fl ++ ndC (dt m f ini cur w n)))], fp := [0] }
  | 0, ini, cur, w, n, fl, hf, hn, _, _, _, _, _, _ => by omega
  | f + 1, ini, cur, w, n, fl, hf, hn, hfl, hs, hil, h0, hl, hw => yQ f m hm (uc m hm f) ini cur w n fl hf hn hfl hs hil h0 hl hw
theorem z4 (m : Mly) (hm : MOK m) (all : List Int) (hs : cO m all) (h0 : 0 < all.length) (hl : all.length ≤ 1000) :
    c7 Try.prog 36 [m.av, .one (.list (.int .i64) all), .one (.list (.int .i64) all), .one .nils, .one .nils] (.one (.list ndT (dt m 4098 all all [] 0))) := by
  have hc := uc m hm 4098 all all [] 0 [] (by omega) (by omega) rfl hs rfl h0 hl (fun x hx => by cases hx)
  refine qJ hc.1 rfl fun C σ w vs hP hI ha => ?_
  match vs, ha with
  | [v0, v1, v2, v3, v4], ⟨a0, a1, a2, a3, a4, _⟩ =>
  have hd := dO (C := C) (L := []) (σ := σ) (w := w) (w' := w) (v := .one (.rwc 0 0)) (fp := []) (u := v4) (g := .slice none 0 0) (ob := .rowc 52 3 0 []) hI (Nat.le_refl _) rfl rfl rfl (fun _ _ => rfl) (fun b hb => by cases hb)
    (fun _ => ⟨[], 0, ⟨rfl, .inl ⟨by rw [b7], rfl⟩⟩, by decide, rfl, trivial⟩) ⟨a4.1, .rowc 52 3 0 [], rfl, Nat.le_refl _, fun _ _ => ⟨⟨_, _, _, rfl⟩, by show v4 = sup σ ([] : List AO).length (.slice none 0 0) ([] : List AO).length; rw [b7]; exact a4.2⟩⟩
  obtain ⟨σ1, d1, d2, d3⟩ := hd
  refine (hc.2 C _ σ1 w [v0, v1, v2, v3, v4] hP d1 ⟨d3.rv a0, d3.rv a1, d3.rv a2, j7 (bl rfl) _ _ _ _ _ (d3.rv a3), d2, trivial⟩ (fun _ _ => rfl) rfl).mono fun e w' ⟨v, he, σ', g1, g2, g3⟩ => ?_
  have hlen : (dc [] ++ ndC (dt m 4098 all all [] 0)).length = (dt m 4098 all all [] 0).length * ndT.size := aF _
  obtain ⟨i1, i2⟩ := iS (k := 0) (t := ndT) (n := (dt m 4098 all all [] 0).length) (e := 52) (v := 0 + (dt m 4098 all all [] 0).length) (cs := dc [] ++ ndC (dt m 4098 all all [] 0)) g1 rfl (jI ndT _) hlen
  refine ⟨_, σ', .one (.row 0 (0 + (dt m 4098 all all [] 0).length + 1)), v, he, ?_, i1, ?_⟩
  · show AV.one (if _ then _ else _) = _
    rw [if_pos rfl]
  · obtain ⟨q1, ob, q2, q3, q4⟩ := g2
    cases q2
    exact ⟨q1, .row ndT 52 (0 + (dt m 4098 all all [] 0).length + 1) (dt m 4098 all all [] 0), rfl, Nat.le_refl _, fun _ _ => ⟨⟨_, _, _, rfl⟩, (q4 rfl rfl).2⟩⟩
set_option maxHeartbeats 1000000 in
theorem y5 (m : Mly) : c7 Try.prog 12 [m.av] (.tup [.agg [.list ndT (jK m)], .one (.bool (kI m)), .one (.int .i64 (dB m))]) := by
 have hbl := wm m
 refine aS Try.func12 rfl (by kernel_rfl) (Nat.le_of_ble_eq_true rfl) rfl fun C hP hN hB => ?_
 replace hN : C.N = 32 := hN
 simp only [bc, V]
 refine ai fun _ k1 => ?_
 refine ak hP hN rfl ?_
 iterate 4 (refine aj rfl fun _ k0 => ?_; simp only [zO, zT, acs, reduceCtorEq, aa, V, ad, ag, af, ae, Mly.av, aY, dg]; (repeat refine an ?_); (try refine .inl ?_); apply k0; clear k0; simp only [zP, V])
 refine am ?_
 apply k1; clear k1; refine kp [0, 1, 2, 3, 4] ?_
 refine ai fun _ k2 => ?_
 refine ai fun _ k3 => ?_
 refine ak hP hN rfl ?_
 (refine aj rfl fun _ k0 => ?_; simp only [zO, zT, acs, reduceCtorEq, aa, V, ad, ag, af, ae, Mly.av, aY, dg]; (repeat refine an ?_); (try refine .inl ?_); apply k0; clear k0; simp only [zP, V])
 refine aj rfl fun _ k0 => ?_
 refine aK (h := aB (y4 m)) rfl rfl (by first | exact rfl | (simp only [ev, zP, aa, V]; exact rfl)) (by simp only [zV, acs, reduceCtorEq, aa, V, ad, ag, af, ae, Mly.av, aY, dg]) ?_
 apply k0; clear k0; simp only [zP, V]
 (refine aj rfl fun _ k0 => ?_; simp only [zO, zT, acs, reduceCtorEq, aa, V, ad, ag, af, ae, Mly.av, aY, dg]; (repeat refine an ?_); (try refine .inl ?_); apply k0; clear k0; simp only [zP, V])
 refine am ?_
 apply k3; clear k3; refine kp [0, 1, 2, 3, 4, 5] ?_
 refine ai fun _ k4 => ?_
 refine ak hP hN rfl ?_
 iterate 2 (refine aj rfl fun _ k0 => ?_; simp only [zO, zT, acs, reduceCtorEq, aa, V, ad, ag, af, ae, Mly.av, aY, dg]; (repeat refine an ?_); (try refine .inl ?_); apply k0; clear k0; simp only [zP, V])
 refine am ?_
 apply k4; clear k4; refine kp [0, 1, 2, 3, 4, 5, 12] ?_
 refine cd (fun hc5 => ?_) (fun hc5 => ?_)
 ·(try simp only [zB, reduceCtorEq] at hc5)
  have hE : ¬ eK m = 0 := hc5
  refine ai fun _ k6 => ?_
  refine ak hP hN rfl ?_
  iterate 5 (refine aj rfl fun _ k0 => ?_; simp only [zO, zT, acs, reduceCtorEq, aa, V, ad, ag, af, ae, Mly.av, aY, dg]; (repeat refine an ?_); (try refine .inl ?_); apply k0; clear k0; simp only [zP, V])
  refine am ?_
  apply k6; clear k6; refine kp [0, 1, 2, 3, 4, 5, 12] ?_
  refine aG ?_
  refine ⟨nr, _, rfl, ?_⟩; simp only [zF, zP, aa, V, Mly.av, aY, dg]
  first
  | (have hZ : dB m = eK m := if_pos hE
     have hZ0 : ¬ dB m = 0 := by rw [hZ]; exact hE
     rw [(eH hZ0).1, (eH hZ0).2, hZ]; exact bS ⟨d5 ⟨bl rfl, trivial⟩, aQ (.refl _), aQ (.refl _), trivial⟩)
  | (have hZ : dB m = 11 := (if_neg (fun h => h hE)).trans (if_pos hL)
     have hZ0 : ¬ dB m = 0 := by rw [hZ]; decide
     rw [(eH hZ0).1, (eH hZ0).2, hZ]; exact bS ⟨d5 ⟨bl rfl, trivial⟩, aQ (.refl _), aQ (.refl _), trivial⟩)
  | (have hZ : dB m = 0 := (if_neg (fun h => h hE)).trans (if_neg hL)
     rw [(gI hZ).1, (gI hZ).2, hZ]; exact VLE.of_eq rfl)
 (try simp only [zB, reduceCtorEq] at hc5)
 have hE : eK m = 0 := by simpa using hc5
 have hm := fc (Aw hE)
 have hn1 := hm.n1
 have hn2 := hm.n2
 refine ay ?_
 apply k2; clear k2; refine kp [0, 1, 2, 3, 4, 5, 12] ?_
 refine ai fun _ k7 => ?_
 refine ak hP hN rfl ?_
 iterate 3 (refine aj rfl fun _ k0 => ?_; simp only [zO, zT, acs, reduceCtorEq, aa, V, ad, ag, af, ae, Mly.av, aY, dg]; (repeat refine an ?_); (try refine .inl ?_); apply k0; clear k0; simp only [zP, V])
 refine aj rfl fun _ k0 => ?_
 refine aK (h := aB (xN m.nx.length (by omega))) rfl rfl (by first | exact rfl | (simp only [ev, zP, aa, V]; exact rfl)) (by simp only [zV, acs, reduceCtorEq, aa, V, ad, ag, af, ae, Mly.av, aY, dg]) ?_
 apply k0; clear k0; simp only [zP, V]
 (refine aj rfl fun _ k0 => ?_; simp only [zO, zT, acs, reduceCtorEq, aa, V, ad, ag, af, ae, Mly.av, aY, dg]; (repeat refine an ?_); (try refine .inl ?_); apply k0; clear k0; simp only [zP, V])
 refine am ?_
 apply k7; clear k7; refine kp [0, 1, 2, 3, 4, 5, 6, 12] ?_
 refine ai fun _ k8 => ?_
 refine ak hP hN rfl ?_
 iterate 3 (refine aj rfl fun _ k0 => ?_; simp only [zO, zT, acs, reduceCtorEq, aa, V, ad, ag, af, ae, Mly.av, aY, dg]; (repeat refine an ?_); (try refine .inl ?_); apply k0; clear k0; simp only [zP, V])
 refine aj rfl fun _ k0 => ?_
 refine aK (h := aB (z4 m hm (rgI m.nx.length) (m9 m) (by rw [dk]; omega) (by rw [dk]; omega))) rfl rfl (by first | exact rfl | (simp only [ev, zP, aa, V]; exact rfl)) (by simp only [zV, acs, reduceCtorEq, aa, V, ad, ag, af, ae, Mly.av, aY, dg]) ?_
 apply k0; clear k0; simp only [zP, V]
 (refine aj rfl fun _ k0 => ?_; simp only [zO, zT, acs, reduceCtorEq, aa, V, ad, ag, af, ae, Mly.av, aY, dg]; (repeat refine an ?_); (try refine .inl ?_); apply k0; clear k0; simp only [zP, V])
 refine am ?_
 apply k8; clear k8; refine kp [0, 1, 2, 3, 4, 5, 6, 7, 12] ?_
 refine ai fun _ k9 => ?_
 refine ai fun _ k10 => ?_
 refine ak hP hN rfl ?_
 iterate 3 (refine aj rfl fun _ k0 => ?_; simp only [zO, zT, acs, reduceCtorEq, aa, V, ad, ag, af, ae, Mly.av, aY, dg]; (repeat refine an ?_); (try refine .inl ?_); apply k0; clear k0; simp only [zP, V])
 refine am ?_
 apply k10; clear k10; refine kp [0, 1, 2, 3, 4, 5, 6, 7, 12, 25] ?_
 refine cd (fun hc11 => ?_) (fun hc11 => ?_)
 ·(try simp only [zB, reduceCtorEq] at hc11)
  have hL : 4096 < (gF m).length := by have h9 : (4096 : Int) < ((gF m).length : Int) := hc11; omega
  refine ai fun _ k12 => ?_
  refine ak hP hN rfl ?_
  iterate 4 (refine aj rfl fun _ k0 => ?_; simp only [zO, zT, acs, reduceCtorEq, aa, V, ad, ag, af, ae, Mly.av, aY, dg]; (repeat refine an ?_); (try refine .inl ?_); apply k0; clear k0; simp only [zP, V])
  refine am ?_
  apply k12; clear k12; refine kp [0, 1, 2, 3, 4, 5, 6, 7, 12, 25] ?_
  refine aG ?_
  refine ⟨nr, _, rfl, ?_⟩; simp only [zF, zP, aa, V, Mly.av, aY, dg]
  first
  | (have hZ : dB m = eK m := if_pos hE
     have hZ0 : ¬ dB m = 0 := by rw [hZ]; exact hE
     rw [(eH hZ0).1, (eH hZ0).2, hZ]; exact bS ⟨d5 ⟨bl rfl, trivial⟩, aQ (.refl _), aQ (.refl _), trivial⟩)
  | (have hZ : dB m = 11 := (if_neg (fun h => h hE)).trans (if_pos hL)
     have hZ0 : ¬ dB m = 0 := by rw [hZ]; decide
     rw [(eH hZ0).1, (eH hZ0).2, hZ]; exact bS ⟨d5 ⟨bl rfl, trivial⟩, aQ (.refl _), aQ (.refl _), trivial⟩)
  | (have hZ : dB m = 0 := (if_neg (fun h => h hE)).trans (if_neg hL)
     rw [(gI hZ).1, (gI hZ).2, hZ]; exact VLE.of_eq rfl)
 (try simp only [zB, reduceCtorEq] at hc11)
 have hL : ¬ 4096 < (gF m).length := by have h9 : ((gF m).length : Int) ≤ 4096 := hc11; omega
 refine ay ?_
 apply k9; clear k9; refine kp [0, 1, 2, 3, 4, 5, 6, 7, 12, 25] ?_
 refine ai fun _ k13 => ?_
 refine ak hP hN rfl ?_
 iterate 4 (refine aj rfl fun _ k0 => ?_; simp only [zO, zT, acs, reduceCtorEq, aa, V, ad, ag, af, ae, Mly.av, aY, dg]; (repeat refine an ?_); (try refine .inl ?_); apply k0; clear k0; simp only [zP, V])
 refine am ?_
 apply k13; clear k13; refine kp [0, 1, 2, 3, 4, 5, 6, 7, 8, 12, 25] ?_
 refine ai fun _ k14 => ?_
 refine bf hP hN Try.mixed rfl ?_
 iterate 2 (refine aj rfl fun _ k0 => ?_; simp only [zO, zT, acs, reduceCtorEq, aa, V, ad, ag, af, ae, Mly.av, aY, dg]; (repeat refine an ?_); (try refine .inl ?_); apply k0; clear k0; simp only [zP, V])
 refine aj rfl fun _ k0 => ?_
 refine aK (h := aB (AW (gF m) (by omega))) rfl rfl (by first | exact rfl | (simp only [ev, zP, aa, V]; exact rfl)) (by simp only [zV, acs, reduceCtorEq, aa, V, ad, ag, af, ae, Mly.av, aY, dg]) ?_
 apply k0; clear k0; simp only [zP, V]
 iterate 3 (refine aj rfl fun _ k0 => ?_; simp only [zO, zT, acs, reduceCtorEq, aa, V, ad, ag, af, ae, Mly.av, aY, dg]; (repeat refine an ?_); (try refine .inl ?_); apply k0; clear k0; simp only [zP, V])
 refine am ?_
 refine ⟨by kernel_rfl, ?_⟩
 apply k14; clear k14; refine kp [0, 1, 2, 3, 4, 5, 6, 7, 8, 12, 25] ?_
 refine aG ?_
 refine ⟨nr, _, rfl, ?_⟩; simp only [zF, zP, aa, V, Mly.av, aY, dg]
 first
 | (have hZ : dB m = eK m := if_pos hE
    have hZ0 : ¬ dB m = 0 := by rw [hZ]; exact hE
    rw [(eH hZ0).1, (eH hZ0).2, hZ]; exact bS ⟨d5 ⟨bl rfl, trivial⟩, aQ (.refl _), aQ (.refl _), trivial⟩)
 | (have hZ : dB m = 11 := (if_neg (fun h => h hE)).trans (if_pos hL)
    have hZ0 : ¬ dB m = 0 := by rw [hZ]; decide
    rw [(eH hZ0).1, (eH hZ0).2, hZ]; exact bS ⟨d5 ⟨bl rfl, trivial⟩, aQ (.refl _), aQ (.refl _), trivial⟩)
 | (have hZ : dB m = 0 := (if_neg (fun h => h hE)).trans (if_neg hL)
    rw [(gI hZ).1, (gI hZ).2, hZ]; exact VLE.of_eq rfl)
set_option maxHeartbeats 1000000 in
theorem vZ (m : Mly) : c7 Try.prog 31 [m.av] (.one (.bool (iW m))) := by
 refine aS Try.func31 rfl (by kernel_rfl) (Nat.le_of_ble_eq_true rfl) rfl fun C hP hN hB => ?_
 replace hN : C.N = 48 := hN
 simp only [bc, V]
 refine ai fun _ k1 => ?_
 refine ak hP hN rfl ?_
 iterate 2 (refine aj rfl fun _ k0 => ?_; simp only [zO, zT, acs, reduceCtorEq, aa, V, ad, ag, af, ae, Mly.av, ah]; (repeat refine an ?_); (try refine .inl ?_); apply k0; clear k0; simp only [zP, V])
 refine am ?_
 apply k1; clear k1; refine kp [0, 1, 2] ?_
 refine ai fun _ k2 => ?_
 refine ai fun _ k3 => ?_
 refine ak hP hN rfl ?_
 iterate 5 (refine aj rfl fun _ k0 => ?_; simp only [zO, zT, acs, reduceCtorEq, aa, V, ad, ag, af, ae, Mly.av, ah]; (repeat refine an ?_); (try refine .inl ?_); apply k0; clear k0; simp only [zP, V])
 refine' aT (want := false) 4 rfl (m := 9) (by simp only [zP, aa, V]; exact rfl) (by kernel_rfl) rfl rfl rfl rfl rfl (fun hg4 => ?a4) ?b4 ?c4
 case a4 =>
  have hq4 := hg4; (try simp only [zB, reduceCtorEq] at hg4); simp only [zE]
  iterate 4 (refine bo rfl fun _ k0 => ?_; simp only [zO, zT, acs, reduceCtorEq, aa, V, ad, ag, af, ae, Mly.av, ah]; (repeat refine an ?_); (try refine .inl ?_); apply k0; clear k0; simp only [zP, V])
  (refine aj rfl fun _ k0 => ?_; simp only [zO, zT, acs, reduceCtorEq, aa, V, ad, ag, af, ae, Mly.av, ah]; (repeat refine an ?_); (try refine .inl ?_); apply k0; clear k0; simp only [zP, V])
  refine am ?_
  refine ⟨by simp only [zP, aa, V]; exact rfl, rfl, ?_, rfl⟩; (repeat refine aU rfl ?_); exact bu (by exact rfl) hq4
 case b4 => exact cJ
 simp only [bj, b6]
 (refine aj rfl fun _ k0 => ?_; simp only [zO, zT, acs, reduceCtorEq, aa, V, ad, ag, af, ae, Mly.av, ah]; (repeat refine an ?_); (try refine .inl ?_); apply k0; clear k0; simp only [zP, V])
 refine' aT (want := false) 3 rfl (m := 15) (by simp only [zP, aa, V]; exact rfl) (by kernel_rfl) rfl rfl rfl rfl rfl (fun hg5 => ?a5) ?b5 ?c5
 case a5 =>
  have hq5 := hg5; (try simp only [zB, reduceCtorEq] at hg5); simp only [zE]
  iterate 3 (refine bo rfl fun _ k0 => ?_; simp only [zO, zT, acs, reduceCtorEq, aa, V, ad, ag, af, ae, Mly.av, ah]; (repeat refine an ?_); (try refine .inl ?_); apply k0; clear k0; simp only [zP, V])
  (refine aj rfl fun _ k0 => ?_; simp only [zO, zT, acs, reduceCtorEq, aa, V, ad, ag, af, ae, Mly.av, ah]; (repeat refine an ?_); (try refine .inl ?_); apply k0; clear k0; simp only [zP, V])
  refine am ?_
  refine ⟨by simp only [zP, aa, V]; exact rfl, rfl, ?_, rfl⟩; (repeat refine aU rfl ?_); exact bu (by exact rfl) hq5
 case b5 => exact cJ
 simp only [bj, b6]
 refine am ?_
 apply k3; clear k3; refine kp [0, 1, 2, 19] ?_
 refine cd (fun hc6 => ?_) (fun hc6 => ?_)
 ·(try simp only [zB, reduceCtorEq] at hc6)
  have hg : iW m = true := Ay (Or.elim hc6 (fun h9 => .inl (Or.elim h9 (fun h8 => .inl (by have h7 : (12 : Int) < (m.nx.length : Int) := h8; omega)) (fun h8 => .inr (by have h7 : (12 : Int) < (m.ot.length : Int) := h8; omega)))) (fun h9 => .inr h9))
  refine ai fun _ k7 => ?_
  refine ak hP hN rfl ?_
  (refine aj rfl fun _ k0 => ?_; simp only [zO, zT, acs, reduceCtorEq, aa, V, ad, ag, af, ae, Mly.av, ah]; (repeat refine an ?_); (try refine .inl ?_); apply k0; clear k0; simp only [zP, V])
  refine am ?_
  apply k7; clear k7; refine kp [0, 1, 2, 19] ?_
  refine aG ?_
  refine ⟨nr, _, rfl, ?_⟩; simp only [zF, zP, aa, V, Mly.av, ah]
  refine VLE.of_eq ?_
  refine congrArg (fun b => AV.one (AC.bool b)) ?_
  symm
  first
  | exact hg
  | exact oD hg0 hqN (fun q h => hqo q (by omega))
 (try simp only [zB, reduceCtorEq] at hc6)
 have hg0 : ¬ ((12 < m.nx.length ∨ 12 < m.ot.length) ∨ 6 < m.inp) := by
   have h7 : (m.nx.length : Int) ≤ 12 := hc6.1.1
   have h8 : (m.ot.length : Int) ≤ 12 := hc6.1.2
   have h9 : m.inp ≤ 6 := hc6.2
   omega
 refine ay ?_
 apply k2; clear k2; refine kp [0, 1, 2, 19] ?_
 refine ai fun _ k8 => ?_
 refine ai fun _ k9 => ?_
 refine ak hP hN rfl ?_
 iterate 4 (refine aj rfl fun _ k0 => ?_; simp only [zO, zT, acs, reduceCtorEq, aa, V, ad, ag, af, ae, Mly.av, ah]; (repeat refine an ?_); (try refine .inl ?_); apply k0; clear k0; simp only [zP, V])
 refine am ?_
 apply k9; clear k9; refine kp [0, 1, 2, 19, 22, 23] ?_
 refine az ?_
 refine ba (fun n10 s10 => ∃ (k : Nat), (k ≤ m.nx.length) ∧ (∀ q, q < k → (m.nx.getD q []).length ≤ 12) ∧ n10 = m.nx.length - k ∧ s10 = { env := [(1, .one (.ptr 0 0 0 0)), (2, .one (.bool false)), (22, .one (.int .i64 (m.nx.length : Int))), (23, .one (.int .i64 (k : Int)))], L := [.vars 24 [.int .i64 m.inp, .int .i64 m.st, .list (.list (.int .i64)) m.nx, .list (.list (.int .i64)) m.ot]] }) ?_ ?_
 ·exact ⟨_, _, ax [1, 2, 22, 23], 0, Nat.zero_le _, fun q h => by omega, rfl, rfl⟩
 rintro n10 s10 ⟨k, hkn, hqn, rfl, rfl⟩
 refine ai fun _ k11 => ?_
 refine ak hP hN rfl ?_
 (refine aj rfl fun _ k0 => ?_; simp only [zO, zT, acs, reduceCtorEq, aa, V, ad, ag, af, ae, Mly.av, ah]; (repeat refine an ?_); (try refine .inl ?_); apply k0; clear k0; simp only [zP, V])
 refine am ?_
 apply k11; clear k11; refine kp [1, 2, 22, 23, 24] ?_
 refine ai fun _ k12 => ?_
 refine cd (fun hc13 => ?_) (fun hc13 => ?_)
 ·(try simp only [zB, reduceCtorEq] at hc13)
  refine ay ?_
  apply k12; clear k12; refine kp [1, 2, 22, 23, 24] ?_
  refine ai fun _ k14 => ?_
  refine az ?_
  refine ai fun _ k15 => ?_
  refine ak hP hN rfl ?_
  iterate 2 (refine aj rfl fun _ k0 => ?_; simp only [zO, zT, acs, reduceCtorEq, aa, V, ad, ag, af, ae, Mly.av, ah]; (repeat refine an ?_); (try refine .inl ?_); apply k0; clear k0; simp only [zP, V])
  refine am ?_
  apply k15; clear k15; refine kp [1, 2, 3, 22, 23, 24] ?_
  refine ai fun _ k16 => ?_
  refine ak hP hN rfl ?_
  iterate 7 (refine aj rfl fun _ k0 => ?_; simp only [zO, zT, acs, reduceCtorEq, aa, V, ad, ag, af, ae, Mly.av, ah]; (repeat refine an ?_); (try refine .inl ?_); apply k0; clear k0; simp only [zP, V])
  refine am ?_
  apply k16; clear k16; refine kp [1, 2, 3, 22, 23, 24, 32] ?_
  refine cd (fun hc17 => ?_) (fun hc17 => ?_)
  ·(try simp only [zB, reduceCtorEq] at hc17)
   have hg : iW m = true := AB (k := k) (by omega) (by have h7 : (12 : Int) < ((m.nx.getD k []).length : Int) := hc17; omega)
   refine ai fun _ k18 => ?_
   refine ak hP hN rfl ?_
   (refine aj rfl fun _ k0 => ?_; simp only [zO, zT, acs, reduceCtorEq, aa, V, ad, ag, af, ae, Mly.av, ah]; (repeat refine an ?_); (try refine .inl ?_); apply k0; clear k0; simp only [zP, V])
   refine am ?_
   apply k18; clear k18; refine kp [1, 2, 3, 22, 23, 24, 32] ?_
   refine aG ?_
   refine ⟨nr, _, rfl, ?_⟩; simp only [zF, zP, aa, V, Mly.av, ah]
   refine VLE.of_eq ?_
   refine congrArg (fun b => AV.one (AC.bool b)) ?_
   symm
   first
   | exact hg
   | exact oD hg0 hqN (fun q h => hqo q (by omega))
  (try simp only [zB, reduceCtorEq] at hc17)
  have hrow : (m.nx.getD k []).length ≤ 12 := by have h7 : ((m.nx.getD k []).length : Int) ≤ 12 := hc17; omega
  refine ay ?_
  apply k14; clear k14; refine kp [1, 2, 3, 22, 23, 24, 32] ?_
  refine ak hP hN rfl ?_
  iterate 2 (refine aj rfl fun _ k0 => ?_; simp only [zO, zT, acs, reduceCtorEq, aa, V, ad, ag, af, ae, Mly.av, ah]; (repeat refine an ?_); (try refine .inl ?_); apply k0; clear k0; simp only [zP, V])
  refine am ?_
  refine ⟨_, _, ?_, ax [1, 2, 22, 23], k + 1, by omega, fun q h => ?_, rfl, rfl⟩
  · omega
  · by_cases e : q = k
    · rw [e]; exact hrow
    · exact hqn q (by omega)
 (try simp only [zB, reduceCtorEq] at hc13)
 refine aV ?_
 apply k8; clear k8; refine kp [1, 2, 22, 23, 24] ?_
 refine ai fun _ k19 => ?_
 refine ai fun _ k20 => ?_
 have hqN : ∀ q, q < m.nx.length → (m.nx.getD q []).length ≤ 12 := fun q h => hqn q (by omega)
 have hkn9 := hkn
 clear hqn
 refine ak hP hN rfl ?_
 iterate 4 (refine aj rfl fun _ k0 => ?_; simp only [zO, zT, acs, reduceCtorEq, aa, V, ad, ag, af, ae, Mly.av, ah]; (repeat refine an ?_); (try refine .inl ?_); apply k0; clear k0; simp only [zP, V])
 refine am ?_
 apply k20; clear k20; refine kp [1, 2, 22, 23, 24, 36, 37] ?_
 refine az ?_
 refine ba (fun n21 s21 => ∃ (k : Nat), (k ≤ m.ot.length) ∧ (∀ q, q < k → (m.ot.getD q []).length ≤ 12) ∧ n21 = m.ot.length - k ∧ s21 = { env := [(1, .one (.ptr 0 0 0 0)), (2, .one (.bool false)), (36, .one (.int .i64 (m.ot.length : Int))), (37, .one (.int .i64 (k : Int)))], L := [.vars 24 [.int .i64 m.inp, .int .i64 m.st, .list (.list (.int .i64)) m.nx, .list (.list (.int .i64)) m.ot]] }) ?_ ?_
 ·exact ⟨_, _, ax [1, 2, 36, 37], 0, Nat.zero_le _, fun q h => by omega, rfl, rfl⟩
 rintro n21 s21 ⟨k, hko, hqo, rfl, rfl⟩
 refine ai fun _ k22 => ?_
 refine ak hP hN rfl ?_
 (refine aj rfl fun _ k0 => ?_; simp only [zO, zT, acs, reduceCtorEq, aa, V, ad, ag, af, ae, Mly.av, ah]; (repeat refine an ?_); (try refine .inl ?_); apply k0; clear k0; simp only [zP, V])
 refine am ?_
 apply k22; clear k22; refine kp [1, 2, 36, 37, 38] ?_
 refine ai fun _ k23 => ?_
 refine cd (fun hc24 => ?_) (fun hc24 => ?_)
 ·(try simp only [zB, reduceCtorEq] at hc24)
  refine ay ?_
  apply k23; clear k23; refine kp [1, 2, 36, 37, 38] ?_
  refine ai fun _ k25 => ?_
  refine az ?_
  refine ai fun _ k26 => ?_
  refine ak hP hN rfl ?_
  iterate 2 (refine aj rfl fun _ k0 => ?_; simp only [zO, zT, acs, reduceCtorEq, aa, V, ad, ag, af, ae, Mly.av, ah]; (repeat refine an ?_); (try refine .inl ?_); apply k0; clear k0; simp only [zP, V])
  refine am ?_
  apply k26; clear k26; refine kp [1, 2, 4, 36, 37, 38] ?_
  refine ai fun _ k27 => ?_
  refine ak hP hN rfl ?_
  iterate 7 (refine aj rfl fun _ k0 => ?_; simp only [zO, zT, acs, reduceCtorEq, aa, V, ad, ag, af, ae, Mly.av, ah]; (repeat refine an ?_); (try refine .inl ?_); apply k0; clear k0; simp only [zP, V])
  refine am ?_
  apply k27; clear k27; refine kp [1, 2, 4, 36, 37, 38, 46] ?_
  refine cd (fun hc28 => ?_) (fun hc28 => ?_)
  ·(try simp only [zB, reduceCtorEq] at hc28)
   have hg : iW m = true := B0 (k := k) (by omega) (by have h7 : (12 : Int) < ((m.ot.getD k []).length : Int) := hc28; omega)
   refine ai fun _ k29 => ?_
   refine ak hP hN rfl ?_
   (refine aj rfl fun _ k0 => ?_; simp only [zO, zT, acs, reduceCtorEq, aa, V, ad, ag, af, ae, Mly.av, ah]; (repeat refine an ?_); (try refine .inl ?_); apply k0; clear k0; simp only [zP, V])
   refine am ?_
   apply k29; clear k29; refine kp [1, 2, 4, 36, 37, 38, 46] ?_
   refine aG ?_
   refine ⟨nr, _, rfl, ?_⟩; simp only [zF, zP, aa, V, Mly.av, ah]
   refine VLE.of_eq ?_
   refine congrArg (fun b => AV.one (AC.bool b)) ?_
   symm
   first
   | exact hg
   | exact oD hg0 hqN (fun q h => hqo q (by omega))
  (try simp only [zB, reduceCtorEq] at hc28)
  have hrow : (m.ot.getD k []).length ≤ 12 := by have h7 : ((m.ot.getD k []).length : Int) ≤ 12 := hc28; omega
  refine ay ?_
  apply k25; clear k25; refine kp [1, 2, 4, 36, 37, 38, 46] ?_
  refine ak hP hN rfl ?_
  iterate 2 (refine aj rfl fun _ k0 => ?_; simp only [zO, zT, acs, reduceCtorEq, aa, V, ad, ag, af, ae, Mly.av, ah]; (repeat refine an ?_); (try refine .inl ?_); apply k0; clear k0; simp only [zP, V])
  refine am ?_
  refine ⟨_, _, ?_, ax [1, 2, 36, 37], k + 1, by omega, fun q h => ?_, rfl, rfl⟩
  · omega
  · by_cases e : q = k
    · rw [e]; exact hrow
    · exact hqo q (by omega)
 (try simp only [zB, reduceCtorEq] at hc24)
 refine aV ?_
 apply k19; clear k19; refine kp [1, 2, 36, 37, 38] ?_
 refine ai fun _ k30 => ?_
 refine ak hP hN rfl ?_
 (refine aj rfl fun _ k0 => ?_; simp only [zO, zT, acs, reduceCtorEq, aa, V, ad, ag, af, ae, Mly.av, ah]; (repeat refine an ?_); (try refine .inl ?_); apply k0; clear k0; simp only [zP, V])
 refine am ?_
 apply k30; clear k30; refine kp [1, 2, 36, 37, 38] ?_
 refine aG ?_
 refine ⟨nr, _, rfl, ?_⟩; simp only [zF, zP, aa, V, Mly.av, ah]
 refine VLE.of_eq ?_
 refine congrArg (fun b => AV.one (AC.bool b)) ?_
 symm
 first
 | exact hg
 | exact oD hg0 hqN (fun q h => hqo q (by omega))
theorem vL (m : Mly) : c7 Try.prog 9 [m.av] (.one (.bool (Bh m))) := by
 refine aS Try.func9 rfl (by kernel_rfl) (Nat.le_of_ble_eq_true rfl) rfl fun C hP hN hB => ?_
 replace hN : C.N = 17 := hN
 simp only [bc, V]
 refine ai fun _ k1 => ?_
 refine ak hP hN rfl ?_
 iterate 2 (refine aj rfl fun _ k0 => ?_; simp only [zO, zT, acs, reduceCtorEq, aa, V, ad, ag, af, ae, Mly.av]; (repeat refine an ?_); (try refine .inl ?_); apply k0; clear k0; simp only [zP, V])
 refine am ?_
 apply k1; clear k1; refine kp [0, 1, 2] ?_
 refine ai fun _ k2 => ?_
 refine ak hP hN rfl ?_
 (refine aj rfl fun _ k0 => ?_; simp only [zO, zT, acs, reduceCtorEq, aa, V, ad, ag, af, ae, Mly.av]; (repeat refine an ?_); (try refine .inl ?_); apply k0; clear k0; simp only [zP, V])
 refine aj rfl fun _ k0 => ?_
 refine aK (h := aB (vZ m)) rfl rfl (by first | exact rfl | (simp only [ev, zP, aa, V]; exact rfl)) (by simp only [zV, acs, reduceCtorEq, aa, V, ad, ag, af, ae, Mly.av]) ?_
 apply k0; clear k0; simp only [zP, V]
 iterate 2 (refine aj rfl fun _ k0 => ?_; simp only [zO, zT, acs, reduceCtorEq, aa, V, ad, ag, af, ae, Mly.av]; (repeat refine an ?_); (try refine .inl ?_); apply k0; clear k0; simp only [zP, V])
 refine' aT (want := true) 4 rfl (m := 6) (by simp only [zP, aa, V]; exact rfl) (by kernel_rfl) rfl rfl rfl rfl rfl (fun hg3 => ?a3) ?b3 ?c3
 case a3 =>
  have hq3 := hg3; (try simp only [zB, reduceCtorEq] at hg3); simp only [zE]
  iterate 4 (refine bo rfl fun _ k0 => ?_; simp only [zO, zT, acs, reduceCtorEq, aa, V, ad, ag, af, ae, Mly.av]; (repeat refine an ?_); (try refine .inl ?_); apply k0; clear k0; simp only [zP, V])
  (refine aj rfl fun _ k0 => ?_; simp only [zO, zT, acs, reduceCtorEq, aa, V, ad, ag, af, ae, Mly.av]; (repeat refine an ?_); (try refine .inl ?_); apply k0; clear k0; simp only [zP, V])
  refine am ?_
  refine ⟨by simp only [zP, aa, V]; exact rfl, rfl, ?_, rfl⟩; (repeat refine aU rfl ?_); exact bu (by exact rfl) hq3
 case b3 => exact cJ
 simp only [bj, b6]
 (refine aj rfl fun _ k0 => ?_; simp only [zO, zT, acs, reduceCtorEq, aa, V, ad, ag, af, ae, Mly.av]; (repeat refine an ?_); (try refine .inl ?_); apply k0; clear k0; simp only [zP, V])
 refine' aT (want := true) 3 rfl (m := 12) (by simp only [zP, aa, V]; exact rfl) (by kernel_rfl) rfl rfl rfl rfl rfl (fun hg4 => ?a4) ?b4 ?c4
 case a4 =>
  have hq4 := hg4; (try simp only [zB, reduceCtorEq] at hg4); simp only [zE]
  iterate 3 (refine bo rfl fun _ k0 => ?_; simp only [zO, zT, acs, reduceCtorEq, aa, V, ad, ag, af, ae, Mly.av]; (repeat refine an ?_); (try refine .inl ?_); apply k0; clear k0; simp only [zP, V])
  (refine aj rfl fun _ k0 => ?_; simp only [zO, zT, acs, reduceCtorEq, aa, V, ad, ag, af, ae, Mly.av]; (repeat refine an ?_); (try refine .inl ?_); apply k0; clear k0; simp only [zP, V])
  refine am ?_
  refine ⟨by simp only [zP, aa, V]; exact rfl, rfl, ?_, rfl⟩; (repeat refine aU rfl ?_); exact bu (by exact rfl) hq4
 case b4 => exact cJ
 simp only [bj, b6]
 (refine aj rfl fun _ k0 => ?_; simp only [zO, zT, acs, reduceCtorEq, aa, V, ad, ag, af, ae, Mly.av]; (repeat refine an ?_); (try refine .inl ?_); apply k0; clear k0; simp only [zP, V])
 refine am ?_
 apply k2; clear k2; refine kp [0, 1, 2] ?_
 refine aG ?_
 refine ⟨nr, _, rfl, ?_⟩; simp only [zF, zP, aa, V, Mly.av]
 refine VLE.of_eq ?_
 refine congrArg (fun b => AV.one (AC.bool b)) ?_
 unfold Bh
 rw [show decide ((m.nx.length : Int) ≤ 8) = decide (m.nx.length ≤ 8) by rw [decide_eq_decide]; omega]
theorem AM (m : Mly) : c7 Try.prog 3 [m.av] (.one (.bool true)) := by
 refine aS Try.func3 rfl (by kernel_rfl) (Nat.le_of_ble_eq_true rfl) rfl fun C hP hN hB => ?_
 replace hN : C.N = 41 := hN
 simp only [bc, V]
 refine ai fun _ k1 => ?_
 refine ak hP hN rfl ?_
 iterate 2 (refine aj rfl fun _ k0 => ?_; simp only [zO, zT, acs, reduceCtorEq, aa, V, ad, ag, af, ae, Mly.av]; (repeat refine an ?_); (try refine .inl ?_); apply k0; clear k0; simp only [zP, V])
 refine am ?_
 apply k1; clear k1; refine kp [0, 1, 2] ?_
 refine ai fun _ k2 => ?_
 refine ai fun _ k3 => ?_
 refine ak hP hN rfl ?_
 (refine aj rfl fun _ k0 => ?_; simp only [zO, zT, acs, reduceCtorEq, aa, V, ad, ag, af, ae, Mly.av]; (repeat refine an ?_); (try refine .inl ?_); apply k0; clear k0; simp only [zP, V])
 refine aj rfl fun _ k0 => ?_
 refine aK (h := aB (vL m)) rfl rfl (by first | exact rfl | (simp only [ev, zP, aa, V]; exact rfl)) (by simp only [zV, acs, reduceCtorEq, aa, V, ad, ag, af, ae, Mly.av]) ?_
 apply k0; clear k0; simp only [zP, V]
 (refine aj rfl fun _ k0 => ?_; simp only [zO, zT, acs, reduceCtorEq, aa, V, ad, ag, af, ae, Mly.av]; (repeat refine an ?_); (try refine .inl ?_); apply k0; clear k0; simp only [zP, V])
 refine am ?_
 apply k3; clear k3; refine kp [0, 1, 2, 11] ?_
 refine cd (fun hc4 => ?_) (fun hc4 => ?_)
 ·(try simp only [zB, reduceCtorEq] at hc4)
  refine ai fun _ k5 => ?_
  refine ak hP hN rfl ?_
  refine aj rfl fun _ k0 => ?_
  refine aK (h := aB xb) rfl rfl (by first | exact rfl | (simp only [ev, zP, aa, V]; exact rfl)) (by simp only [zV, acs, reduceCtorEq, aa, V, ad, ag, af, ae, Mly.av]) ?_
  apply k0; clear k0; simp only [zP, V]
  (refine aj rfl fun _ k0 => ?_; simp only [zO, zT, acs, reduceCtorEq, aa, V, ad, ag, af, ae, Mly.av]; (repeat refine an ?_); (try refine .inl ?_); apply k0; clear k0; simp only [zP, V])
  refine am ?_
  apply k5; clear k5; refine kp [0, 1, 2, 11] ?_
  refine aG ?_
  refine ⟨nr, _, rfl, ?_⟩; simp only [zF, zP, aa, V, Mly.av]
  refine VLE.of_eq ?_
  first | rfl | (refine congrArg (fun b => AV.one (AC.bool b)) ?_; rw [(j5 m).1, (j5 m).2.1, (j5 m).2.2]; simp; done)
 (try simp only [zB, reduceCtorEq] at hc4)
 refine ay ?_
 apply k2; clear k2; refine kp [0, 1, 2, 11] ?_
 refine ai fun _ k6 => ?_
 refine ak hP hN rfl ?_
 (refine aj rfl fun _ k0 => ?_; simp only [zO, zT, acs, reduceCtorEq, aa, V, ad, ag, af, ae, Mly.av]; (repeat refine an ?_); (try refine .inl ?_); apply k0; clear k0; simp only [zP, V])
 refine aj rfl fun _ k0 => ?_
 refine aK (h := aB (nB m)) rfl rfl (by first | exact rfl | (simp only [ev, zP, aa, V]; exact rfl)) (by simp only [zV, acs, reduceCtorEq, aa, V, ad, ag, af, ae, Mly.av]) ?_
 apply k0; clear k0; simp only [zP, V]
 iterate 8 (refine aj rfl fun _ k0 => ?_; simp only [zO, zT, acs, reduceCtorEq, aa, V, ad, ag, af, ae, Mly.av]; (repeat refine an ?_); (try refine .inl ?_); apply k0; clear k0; simp only [zP, V])
 refine am ?_
 apply k6; clear k6; refine kp [0, 1, 2, 3, 4, 5, 11] ?_
 refine ai fun _ k7 => ?_
 refine ak hP hN rfl ?_
 (refine aj rfl fun _ k0 => ?_; simp only [zO, zT, acs, reduceCtorEq, aa, V, ad, ag, af, ae, Mly.av]; (repeat refine an ?_); (try refine .inl ?_); apply k0; clear k0; simp only [zP, V])
 refine aj rfl fun _ k0 => ?_
 refine aK (h := aB (y5 m)) rfl rfl (by first | exact rfl | (simp only [ev, zP, aa, V]; exact rfl)) (by simp only [zV, acs, reduceCtorEq, aa, V, ad, ag, af, ae, Mly.av]) ?_
 apply k0; clear k0; simp only [zP, V]
 iterate 8 (refine aj rfl fun _ k0 => ?_; simp only [zO, zT, acs, reduceCtorEq, aa, V, ad, ag, af, ae, Mly.av]; (repeat refine an ?_); (try refine .inl ?_); apply k0; clear k0; simp only [zP, V])
 refine am ?_
 apply k7; clear k7; refine kp [0, 1, 2, 3, 4, 5, 6, 7, 8, 11] ?_
 refine ai fun _ k8 => ?_
 refine ak hP hN rfl ?_
 iterate 2 (refine aj rfl fun _ k0 => ?_; simp only [zO, zT, acs, reduceCtorEq, aa, V, ad, ag, af, ae, Mly.av]; (repeat refine an ?_); (try refine .inl ?_); apply k0; clear k0; simp only [zP, V])
 refine aj rfl fun _ k0 => ?_
 refine aK (h := aB (qx (fR m) (jK m) (by have := yB m; omega) xt)) rfl rfl (by first | exact rfl | (simp only [ev, zP, aa, V]; exact rfl)) (by simp only [zV, acs, reduceCtorEq, aa, V, ad, ag, af, ae, Mly.av]) ?_
 apply k0; clear k0; simp only [zP, V]
 (refine aj rfl fun _ k0 => ?_; simp only [zO, zT, acs, reduceCtorEq, aa, V, ad, ag, af, ae, Mly.av]; (repeat refine an ?_); (try refine .inl ?_); apply k0; clear k0; simp only [zP, V])
 refine' aT (want := true) 3 rfl (m := 28) (by simp only [zP, aa, V]; exact rfl) (by kernel_rfl) rfl rfl rfl rfl rfl (fun hg9 => ?a9) ?b9 ?c9
 case a9 =>
  have hq9 := hg9; (try simp only [zB, reduceCtorEq] at hg9); simp only [zE]
  iterate 3 (refine bo rfl fun _ k0 => ?_; simp only [zO, zT, acs, reduceCtorEq, aa, V, ad, ag, af, ae, Mly.av]; (repeat refine an ?_); (try refine .inl ?_); apply k0; clear k0; simp only [zP, V])
  (refine aj rfl fun _ k0 => ?_; simp only [zO, zT, acs, reduceCtorEq, aa, V, ad, ag, af, ae, Mly.av]; (repeat refine an ?_); (try refine .inl ?_); apply k0; clear k0; simp only [zP, V])
  refine am ?_
  refine ⟨by simp only [zP, aa, V]; exact rfl, rfl, ?_, rfl⟩; (repeat refine aU rfl ?_); exact bu (by exact rfl) hq9
 case b9 => exact cJ
 simp only [bj, b6]
 (refine aj rfl fun _ k0 => ?_; simp only [zO, zT, acs, reduceCtorEq, aa, V, ad, ag, af, ae, Mly.av]; (repeat refine an ?_); (try refine .inl ?_); apply k0; clear k0; simp only [zP, V])
 refine' aT (want := true) 3 rfl (m := 33) (by simp only [zP, aa, V]; exact rfl) (by kernel_rfl) rfl rfl rfl rfl rfl (fun hg10 => ?a10) ?b10 ?c10
 case a10 =>
  have hq10 := hg10; (try simp only [zB, reduceCtorEq] at hg10); simp only [zE]
  iterate 3 (refine bo rfl fun _ k0 => ?_; simp only [zO, zT, acs, reduceCtorEq, aa, V, ad, ag, af, ae, Mly.av]; (repeat refine an ?_); (try refine .inl ?_); apply k0; clear k0; simp only [zP, V])
  (refine aj rfl fun _ k0 => ?_; simp only [zO, zT, acs, reduceCtorEq, aa, V, ad, ag, af, ae, Mly.av]; (repeat refine an ?_); (try refine .inl ?_); apply k0; clear k0; simp only [zP, V])
  refine am ?_
  refine ⟨by simp only [zP, aa, V]; exact rfl, rfl, ?_, rfl⟩; (repeat refine aU rfl ?_); exact bu (by exact rfl) hq10
 case b10 => exact cJ
 simp only [bj, b6]
 (refine aj rfl fun _ k0 => ?_; simp only [zO, zT, acs, reduceCtorEq, aa, V, ad, ag, af, ae, Mly.av]; (repeat refine an ?_); (try refine .inl ?_); apply k0; clear k0; simp only [zP, V])
 refine' aT (want := true) 1 rfl (m := 38) (by simp only [zP, aa, V]; exact rfl) (by kernel_rfl) rfl rfl rfl rfl rfl (fun hg11 => ?a11) ?b11 ?c11
 case a11 =>
  have hq11 := hg11; (try simp only [zB, reduceCtorEq] at hg11); simp only [zE]
  refine bo rfl fun _ k0 => ?_
  refine aK (h := aB xb) rfl rfl (by first | exact rfl | (simp only [ev, zP, aa, V]; exact rfl)) (by simp only [zV, acs, reduceCtorEq, aa, V, ad, ag, af, ae, Mly.av]) ?_
  apply k0; clear k0; simp only [zP, V]
  (refine aj rfl fun _ k0 => ?_; simp only [zO, zT, acs, reduceCtorEq, aa, V, ad, ag, af, ae, Mly.av]; (repeat refine an ?_); (try refine .inl ?_); apply k0; clear k0; simp only [zP, V])
  refine am ?_
  refine ⟨by simp only [zP, aa, V]; exact rfl, rfl, ?_, rfl⟩; (repeat refine aU rfl ?_); exact bu (by exact rfl) hq11
 case b11 => exact cJ
 simp only [bj, b6]
 (refine aj rfl fun _ k0 => ?_; simp only [zO, zT, acs, reduceCtorEq, aa, V, ad, ag, af, ae, Mly.av]; (repeat refine an ?_); (try refine .inl ?_); apply k0; clear k0; simp only [zP, V])
 refine am ?_
 apply k8; clear k8; refine kp [0, 1, 2, 3, 4, 5, 6, 7, 8, 11] ?_
 refine aG ?_
 refine ⟨nr, _, rfl, ?_⟩; simp only [zF, zP, aa, V, Mly.av]
 refine VLE.of_eq ?_
 first | rfl | (refine congrArg (fun b => AV.one (AC.bool b)) ?_; rw [(j5 m).1, (j5 m).2.1, (j5 m).2.2]; simp; done)
end Go.Proofs.Ytoahhklogohehaa
