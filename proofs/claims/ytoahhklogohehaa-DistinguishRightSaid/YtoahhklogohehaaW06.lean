/- Contracts of functions of this seat, each out of a walk through its code, and plain facts on what they compute. Conditions: those that each theorem names. -/
import Derived.Test.YtoahhklogohehaaW05
set_option linter.unusedSimpArgs false
set_option linter.unusedVariables false
set_option maxRecDepth 100000
namespace Go.Proofs.Ytoahhklogohehaa
open Go Go.AV
open Nat renaming reduceEqDiff → aa, reduceAdd → V, reduceLeDiff → ad, reduceLT → ag, reduceMul → af, reduceSub → ae
open List renaming set_cons_zero → cv, set_cons_succ → cq, getD_cons_zero → au, length_append → ar, map_cons → aH, cons_append → aT, map_nil → bm, length_cons → aw, nil_append → bg, take_succ_cons → cQ, length_nil → aG, length_map → aD, length_replicate → bj, take_length → aL, mem_cons_self → aR, mem_cons_of_mem → aJ
open Int renaming toNat_natCast → ah
set_option maxHeartbeats 2500000 in
theorem ux (m : Mly) : bJ Try.prog 63 [m.av] (.tup [if aS m = 0 then .agg [.int .i64 m.inp, .int .i64 0, .list (.list (.int .i64)) (mmF m).2, .junk] else Mly.av ⟨0, 0, [], []⟩, .one (.int .i64 (aS m))]) := by
 refine aU Try.func63 rfl (by kernel_rfl) (Nat.le_of_ble_eq_true rfl) rfl fun C hP hN hB => ?_
 replace hN : C.N = 130 := hN
 simp only [bc, V]
 refine ai fun _ k1 => ?_
 refine am hP hN rfl ?_
 iterate 3 (refine aj rfl fun _ k0 => ?_; simp only [zO, zT, acs, reduceCtorEq, aa, V, ad, ag, af, ae, Mly.av, ah, bu]; (repeat refine an ?_); (try refine .inl ?_); apply k0; clear k0; simp only [zP, V])
 refine ao ?_
 apply k1; clear k1; refine kp [0, 1, 2, 3] ?_
 refine ai fun _ k2 => ?_
 refine am hP hN rfl ?_
 (refine aj rfl fun _ k0 => ?_; simp only [zO, zT, acs, reduceCtorEq, aa, V, ad, ag, af, ae, Mly.av, ah, bu]; (repeat refine an ?_); (try refine .inl ?_); apply k0; clear k0; simp only [zP, V])
 refine aj rfl fun _ k0 => ?_
 refine aI (h := aA (yC m)) rfl rfl (by first | exact rfl | (simp only [ev, zP, aa, V]; exact rfl)) (by simp only [zV, acs, reduceCtorEq, aa, V, ad, ag, af, ae, Mly.av, ah, bu]) ?_
 apply k0; clear k0; simp only [zP, V]
 iterate 5 (refine aj rfl fun _ k0 => ?_; simp only [zO, zT, acs, reduceCtorEq, aa, V, ad, ag, af, ae, Mly.av, ah, bu]; (repeat refine an ?_); (try refine .inl ?_); apply k0; clear k0; simp only [zP, V])
 refine ao ?_
 apply k2; clear k2; refine kp [0, 1, 2, 3, 4, 5] ?_
 refine ai fun _ k3 => ?_
 refine ai fun _ k4 => ?_
 refine am hP hN rfl ?_
 iterate 2 (refine aj rfl fun _ k0 => ?_; simp only [zO, zT, acs, reduceCtorEq, aa, V, ad, ag, af, ae, Mly.av, ah, bu]; (repeat refine an ?_); (try refine .inl ?_); apply k0; clear k0; simp only [zP, V])
 refine ao ?_
 apply k4; clear k4; refine kp [0, 1, 2, 3, 4, 5, 21] ?_
 refine cd (fun hc5 => ?_) (fun hc5 => ?_)
 ·(try simp only [zB, reduceCtorEq] at hc5)
  have hv : ¬ aS m = 0 := hc5
  refine ai fun _ k6 => ?_
  refine am hP hN rfl ?_
  iterate 4 (refine aj rfl fun _ k0 => ?_; simp only [zO, zT, acs, reduceCtorEq, aa, V, ad, ag, af, ae, Mly.av, ah, bu]; (repeat refine an ?_); (try refine .inl ?_); apply k0; clear k0; simp only [zP, V])
  refine ao ?_
  apply k6; clear k6; refine kp [0, 1, 2, 3, 4, 5, 21] ?_
  refine aE ?_
  refine ⟨nr, _, rfl, ?_⟩; simp only [zF, zP, aa, V, Mly.av, ah, bu]
  first
  | (rw [if_neg hv]; exact bI ⟨dA ⟨.refl _, .refl _, bp rfl, bp rfl, trivial⟩, aK (.refl _), trivial⟩)
  | (rw [if_pos hv, hv, ← hRX]; exact bI ⟨dA ⟨.refl _, .refl _, .refl _, fun C L σ w u hu => ⟨hu.1, trivial⟩, trivial⟩, aK (.refl _), trivial⟩)
 (try simp only [zB, reduceCtorEq] at hc5)
 have hv : aS m = 0 := by simpa using hc5
 have hm := eI hv
 have hi1 := hm.i1; have hi2 := hm.i2; have hn1 := hm.n1; have hn2 := hm.n2; have hs1 := hm.s1; have hs2 := hm.s2; have ol := hm.ol
 have hcl := jX m m.nx.length
 refine sD 4 (v' := .one (.list (.int .i64) (m.cls m.nx.length))) rfl (VLE.of_eq (by show AV.one (.list (.int .i64) (if aS m = 0 then m.cls m.nx.length else [])) = _; rw [if_pos hv])) ?_
 refine ay ?_
 apply k3; clear k3; refine kp [0, 1, 2, 3, 4, 5, 21] ?_
 refine ai fun _ k7 => ?_
 refine am hP hN rfl ?_
 iterate 2 (refine aj rfl fun _ k0 => ?_; simp only [zO, zT, acs, reduceCtorEq, aa, V, ad, ag, af, ae, Mly.av, ah, bu]; (repeat refine an ?_); (try refine .inl ?_); apply k0; clear k0; simp only [zP, V])
 (refine aj rfl fun _ k0 => ?_; simp only [zO, zT, acs, reduceCtorEq, aa, V, ad, ag, af, ae, Mly.av, ah, bu]; (repeat refine an ?_); refine Or.inr (Or.inl (k0 _ ?_)); clear k0; simp only [zP, V])
 (refine aj rfl fun _ k0 => ?_; simp only [zO, zT, acs, reduceCtorEq, aa, V, ad, ag, af, ae, Mly.av, ah, bu]; (repeat refine an ?_); (try refine .inl ?_); apply k0; clear k0; simp only [zP, V])
 refine ao ?_
 apply k7; clear k7; refine kp [0, 1, 2, 3, 4, 5, 6, 21] ?_
 refine ai fun _ k8 => ?_
 refine am hP hN rfl ?_
 iterate 3 (refine aj rfl fun _ k0 => ?_; simp only [zO, zT, acs, reduceCtorEq, aa, V, ad, ag, af, ae, Mly.av, ah, bu]; (repeat refine an ?_); (try refine .inl ?_); apply k0; clear k0; simp only [zP, V])
 (refine aj rfl fun _ k0 => ?_; simp only [zE, op1, ev, lkp, d4, bK, bU, cZ, Nat.mul_one, bS, cD, acs, Ty.dflt, zG, bW, cw, fA, eN, cM, df, eS, Nat.div_one, cV, dj, Ty.size, bt, dite_true, cT, reduceCtorEq, aa, V, ad, ag, af, ae, Try.el22, Try.el41, Try.st24, Try.td2, Try.td22, Try.td24, Try.td3, Try.td41, Mly.av, ah, bu]; (repeat refine an ?_); (try refine .inl ?_); apply k0; clear k0; simp only [zP, V])
 (refine aj rfl fun _ k0 => ?_; simp only [zO, zT, acs, reduceCtorEq, aa, V, ad, ag, af, ae, Mly.av, ah, bu]; (repeat refine an ?_); (try refine .inl ?_); apply k0; clear k0; simp only [zP, V])
 refine ao ?_
 apply k8; clear k8; refine kp [0, 1, 2, 3, 4, 5, 6, 7, 21] ?_
 refine ai fun _ k9 => ?_
 refine ai fun _ k10 => ?_
 refine am hP hN rfl ?_
 (refine aj rfl fun _ k0 => ?_; simp only [zO, zT, acs, reduceCtorEq, aa, V, ad, ag, af, ae, Mly.av, ah, bu]; (repeat refine an ?_); (try refine .inl ?_); apply k0; clear k0; simp only [zP, V])
 refine ao ?_
 apply k10; clear k10; refine kp [0, 1, 2, 3, 4, 5, 6, 7, 8, 21] ?_
 refine aC ?_
 refine bf (fun n11 s11 => ∃ (k : Nat), (k ≤ m.nx.length) ∧ n11 = m.nx.length - k ∧ s11 = { env := [(1, .one (.ptr 0 0 0 0)), (2, .one (.ptr 1 0 0 0)), (3, .one (.int .i64 0)), (4, .one (.list (.int .i64) (m.cls m.nx.length))), (6, .one (.row 2 0)), (7, .one (.row 3 0)), (8, .one (.int .i64 (k : Int)))], L := [.vars 24 [.int .i64 m.inp, .int .i64 m.st, .list (.list (.int .i64)) m.nx, .list (.list (.int .i64)) m.ot], .vars 24 [.int .i64 0, .int .i64 0, .nils, .nils], .row (.int .i64) 3 0 [m.st], .row (.int .i64) 3 0 (prL (fun _ => -1) m.nx.length k 0)] }) ?_ ?_
 ·refine ⟨_, _, az [1, 2, 3, 4, 6, 7, 8], 0, Nat.zero_le _, rfl, ?_⟩
  rw [yz]; rfl
 rintro n11 s11 ⟨k, hk, rfl, rfl⟩
 refine ai fun _ k12 => ?_
 refine ai fun _ k13 => ?_
 refine am hP hN rfl ?_
 iterate 4 (refine aj rfl fun _ k0 => ?_; simp only [zO, zT, acs, reduceCtorEq, aa, V, ad, ag, af, ae, Mly.av, ah, bu, pK]; (repeat refine an ?_); (try refine .inl ?_); apply k0; clear k0; simp only [zP, V])
 refine ao ?_
 apply k13; clear k13; refine kp [1, 2, 3, 4, 6, 7, 8, 34] ?_
 refine cd (fun hc14 => ?_) (fun hc14 => ?_)
 ·(try simp only [zB, reduceCtorEq] at hc14)
  refine ay ?_
  apply k12; clear k12; refine kp [1, 2, 3, 4, 6, 7, 8, 34] ?_
  refine ai fun _ k15 => ?_
  refine aC ?_
  have hp9 := tC (f := fun _ => (-1 : Int)) (n := m.nx.length) (s := k) (by omega)
  refine am hP hN rfl ?_
  iterate 4 (refine aj rfl fun _ k0 => ?_; simp only [zO, zT, acs, reduceCtorEq, aa, V, ad, ag, af, ae, Mly.av, ah, bu, pK]; (repeat refine an ?_); (try refine .inl ?_); apply k0; clear k0; simp only [zP, V])
  refine ao ?_
  apply k15; clear k15; refine kp [1, 2, 3, 4, 6, 7, 8, 34] ?_
  refine am hP hN rfl ?_
  iterate 3 (refine aj rfl fun _ k0 => ?_; simp only [zO, zT, acs, reduceCtorEq, aa, V, ad, ag, af, ae, Mly.av, ah, bu]; (repeat refine an ?_); (try refine .inl ?_); apply k0; clear k0; simp only [zP, V])
  refine ao ?_
  refine ⟨_, _, ?_, az [1, 2, 3, 4, 6, 7, 8], k + 1, by omega, rfl, ?_⟩
  · omega
  · rw [hp9, ← qW]; rfl
 (try simp only [zB, reduceCtorEq] at hc14)
 refine b6 ?_
 apply k9; clear k9; refine kp [1, 2, 3, 4, 6, 7, 8, 34] ?_
 refine ai fun _ k16 => ?_
 have hc0 : 0 ≤ (m.cls m.nx.length).getD m.st.toNat 0 ∧ (m.cls m.nx.length).getD m.st.toNat 0 < m.nx.length := uh hm ⟨hs1, hs2⟩
 have hke : k = m.nx.length := by omega
 have hset0 : (gk m []).set ((m.cls m.nx.length).getD m.st.toNat 0).toNat 0 = gk m [m.st] := qI (m := m) (O := []) (t := m.st) (c := ((m.cls m.nx.length).getD m.st.toNat 0).toNat) (by omega) (by show (m.cls m.nx.length).getD m.st.toNat 0 = _; omega) (by show (-1 : Int) < 0; omega)
 rw [hke, tX, show (List.range m.nx.length).map (fun _ => (-1 : Int)) = gk m [] by rw [xY]; simp [List.map_const']]
 refine am hP hN rfl ?_
 iterate 8 (refine aj rfl fun _ k0 => ?_; simp only [zO, zT, acs, reduceCtorEq, aa, V, ad, ag, af, ae, Mly.av, ah, bu]; (repeat refine an ?_); (try refine .inl ?_); apply k0; clear k0; simp only [zP, V, hset0])
 refine ao ?_
 apply k16; clear k16; refine kp [1, 2, 3, 4, 6, 7, 8, 34] ?_
 refine ai fun _ k17 => ?_
 refine am hP hN rfl ?_
 iterate 5 (refine aj rfl fun _ k0 => ?_; simp only [zO, zT, acs, reduceCtorEq, aa, V, ad, ag, af, ae, Mly.av, ah, bu]; (repeat refine an ?_); (try refine .inl ?_); apply k0; clear k0; simp only [zP, V])
 refine ao ?_
 apply k17; clear k17; refine kp [1, 2, 3, 4, 6, 7, 8, 9, 34] ?_
 refine ai fun _ k18 => ?_
 refine ai fun _ k19 => ?_
 refine am hP hN rfl ?_
 (refine aj rfl fun _ k0 => ?_; simp only [zO, zT, acs, reduceCtorEq, aa, V, ad, ag, af, ae, Mly.av, ah, bu]; (repeat refine an ?_); (try refine .inl ?_); apply k0; clear k0; simp only [zP, V])
 refine ao ?_
 apply k19; clear k19; refine kp [1, 2, 3, 4, 6, 7, 8, 9, 10, 34] ?_
 refine aC ?_
 refine eU 4 2 (.list (.int .i64)) 41 (by decide) rfl rfl ?_; simp only [zS, aw, aG, aT, bg, Nat.zero_add, V]
 refine eU 4 3 (.list (.int .i64)) 41 (by decide) rfl rfl ?_; simp only [zS, aw, aG, aT, bg, Nat.zero_add, V]
 refine bf (fun n20 s20 => ∃ (i v y z : Nat) (O : List Int) (RX RY : C1), (i ≤ O.length) ∧ (MO m O) ∧ (RX.length = i ∧ RY.length = i) ∧ (nB m (m.nx.length + 1 - i) i (O, RX) = mmF m) ∧ n20 = m.nx.length + 1 - i ∧ s20 = { env := [(1, .one (.ptr 0 0 0 0)), (2, .one (.ptr 1 0 0 0)), (3, .one (.int .i64 0)), (4, .one (.list (.int .i64) (m.cls m.nx.length))), (6, .one (.row 2 v)), (7, .one (.row 3 0)), (9, .one (.ptr 4 0 0 0)), (10, .one (.int .i64 (i : Int)))], L := [.vars 24 [.int .i64 m.inp, .int .i64 m.st, .list (.list (.int .i64)) m.nx, .list (.list (.int .i64)) m.ot], .vars 24 [.int .i64 0, .int .i64 0, .nils, .nils], .row (.int .i64) 3 v O, .row (.int .i64) 3 0 (gk m O), .vars 24 [.int .i64 m.inp, .int .i64 0, .row 5 y, .row 6 z], .row (.list (.int .i64)) 41 y RX, .row (.list (.int .i64)) 41 z RY] }) ?_ ?_
 ·exact ⟨_, _, az [1, 2, 3, 4, 6, 7, 9, 10], 0, 0, 0, 0, [m.st], [], [], Nat.zero_le _, ⟨fun o ho => by rw [List.mem_singleton] at ho; rw [ho]; exact ⟨hs1, hs2⟩, List.pairwise_singleton _ _⟩, ⟨rfl, rfl⟩, rfl, rfl, rfl⟩
 rintro n20 s20 ⟨i, v, y, z, O, RX, RY, hi, hO, hRl0, hgo, rfl, rfl⟩
 refine ai fun _ k21 => ?_
 refine ai fun _ k22 => ?_
 refine am hP hN rfl ?_
 iterate 4 (refine aj rfl fun _ k0 => ?_; simp only [zO, zT, acs, reduceCtorEq, aa, V, ad, ag, af, ae, Mly.av, ah, bu]; (repeat refine an ?_); (try refine .inl ?_); apply k0; clear k0; simp only [zP, V])
 refine ao ?_
 apply k22; clear k22; refine kp [1, 2, 3, 4, 6, 7, 9, 10, 53] ?_
 refine cd (fun hc23 => ?_) (fun hc23 => ?_)
 ·(try simp only [zB, reduceCtorEq] at hc23)
  refine ay ?_
  apply k21; clear k21; refine kp [1, 2, 3, 4, 6, 7, 9, 10, 53] ?_
  refine ai fun _ k24 => ?_
  refine aC ?_
  refine ai fun _ k25 => ?_
  have hil : i < O.length := by omega
  have hxr := hO.rng _ (bh hil)
  have hOl := hO.len
  refine am hP hN rfl ?_
  iterate 2 (refine aj rfl fun _ k0 => ?_; simp only [zO, zT, acs, reduceCtorEq, aa, V, ad, ag, af, ae, Mly.av, ah, bu]; (repeat refine an ?_); (try refine .inl ?_); apply k0; clear k0; simp only [zP, V])
  refine ao ?_
  apply k25; clear k25; refine kp [1, 2, 3, 4, 6, 7, 9, 10, 11, 12, 53] ?_
  refine ai fun _ k26 => ?_
  refine ai fun _ k27 => ?_
  refine am hP hN rfl ?_
  (refine aj rfl fun _ k0 => ?_; simp only [zO, zT, acs, reduceCtorEq, aa, V, ad, ag, af, ae, Mly.av, ah, bu]; (repeat refine an ?_); (try refine .inl ?_); apply k0; clear k0; simp only [zP, V])
  refine ao ?_
  apply k27; clear k27; refine kp [1, 2, 3, 4, 6, 7, 9, 10, 11, 12, 13, 53] ?_
  refine aC ?_
  refine gH 11 (.int .i64) 3 (by decide) rfl ?_; simp only [aw, aG, aT, bg, Nat.zero_add, V]
  refine gH 12 (.int .i64) 3 (by decide) rfl ?_; simp only [aw, aG, aT, bg, Nat.zero_add, V]
  refine bf (fun n28 s28 => ∃ (a v2 w1 w2 : Nat) (RO : List Int), ((a : Int) ≤ m.inp) ∧ (RO.length = a) ∧ n28 = m.inp.toNat - a ∧ s28 = { env := [(1, .one (.ptr 0 0 0 0)), (2, .one (.ptr 1 0 0 0)), (3, .one (.int .i64 0)), (4, .one (.list (.int .i64) (m.cls m.nx.length))), (6, .one (.row 2 v2)), (7, .one (.row 3 0)), (9, .one (.ptr 4 0 0 0)), (10, .one (.int .i64 (i : Int))), (11, .one (.row 7 w1)), (12, .one (.row 8 w2)), (13, .one (.int .i64 (a : Int))), (53, .one (.bool true))], L := [.vars 24 [.int .i64 m.inp, .int .i64 m.st, .list (.list (.int .i64)) m.nx, .list (.list (.int .i64)) m.ot], .vars 24 [.int .i64 0, .int .i64 0, .nils, .nils], .row (.int .i64) 3 v2 (cP m (O.getD i 0) O a).1, .row (.int .i64) 3 0 (gk m (cP m (O.getD i 0) O a).1), .vars 24 [.int .i64 m.inp, .int .i64 0, .row 5 y, .row 6 z], .row (.list (.int .i64)) 41 y RX, .row (.list (.int .i64)) 41 z RY, .row (.int .i64) 3 w1 (cP m (O.getD i 0) O a).2, .row (.int .i64) 3 w2 RO] }) ?_ ?_
  ·refine ⟨_, _, az [1, 2, 3, 4, 6, 7, 9, 10, 11, 12, 13, 53], 0, v, 0, 0, [], by omega, rfl, rfl, ?_⟩
   rw [decide_eq_true (show (i : Int) < (O.length : Int) by omega)]; rfl
  rintro n28 s28 ⟨a, v2, w1, w2, RO, ha, hRO, rfl, rfl⟩
  refine ai fun _ k29 => ?_
  refine ai fun _ k30 => ?_
  refine am hP hN rfl ?_
  iterate 4 (refine aj rfl fun _ k0 => ?_; simp only [zO, zT, acs, reduceCtorEq, aa, V, ad, ag, af, ae, Mly.av, ah, bu]; (repeat refine an ?_); (try refine .inl ?_); apply k0; clear k0; simp only [zP, V])
  refine ao ?_
  apply k30; clear k30; refine kp [1, 2, 3, 4, 6, 7, 9, 10, 11, 12, 13, 53, 59] ?_
  refine cd (fun hc31 => ?_) (fun hc31 => ?_)
  ·(try simp only [zB, reduceCtorEq] at hc31)
   refine ay ?_
   apply k29; clear k29; refine kp [1, 2, 3, 4, 6, 7, 9, 10, 11, 12, 13, 53, 59] ?_
   refine ai fun _ k32 => ?_
   refine aC ?_
   refine ai fun _ k33 => ?_
   obtain ⟨hR1, hR2, rr, hR3⟩ := kq hm hxr hO a (by omega)
   have hRl := hR1.len
   have hgx : (cP m (O.getD i 0) O a).1.getD i 0 = (O.getD i 0) := by rw [hR3]; simp [List.getD, List.getElem?_append_left hil]
   have hil2 : i < (cP m (O.getD i 0) O a).1.length := by rw [hR3, ar]; omega
   have q1 := hm.rl (O.getD i 0).toNat (by omega)
   have hnr := hm.nr (O.getD i 0).toNat a (by omega) (by omega)
   have hct : 0 ≤ (m.cls m.nx.length).getD ((m.nx.getD (O.getD i 0).toNat []).getD a 0).toNat 0 ∧ (m.cls m.nx.length).getD ((m.nx.getD (O.getD i 0).toNat []).getD a 0).toNat 0 < m.nx.length := uh hm (t := (m.nxt (O.getD i 0) (a : Int))) hnr
   have hgn : ∀ Z, (gk m Z).getD ((m.cls m.nx.length).getD ((m.nx.getD (O.getD i 0).toNat []).getD a 0).toNat 0).toNat 0 = nmO m Z (cAt m (m.nxt (O.getD i 0) (a : Int))) := fun Z => (y0 (by omega)).trans (congrArg (nmO m Z) (by show _ = (m.cls m.nx.length).getD ((m.nx.getD (O.getD i 0).toNat []).getD a 0).toNat 0; omega))
   refine bo hP hN Try.mixed rfl ?_
   iterate 12 (refine aj rfl fun _ k0 => ?_; simp only [zO, zT, acs, reduceCtorEq, aa, V, ad, ag, af, ae, Mly.av, ah, bu, hgx]; (repeat refine an ?_); (try refine .inl ?_); apply k0; clear k0; simp only [zP, V])
   refine ao ?_
   refine ⟨by kernel_rfl, ?_⟩
   apply k33; clear k33; refine kp [1, 2, 3, 4, 6, 7, 9, 10, 11, 12, 13, 14, 53, 59] ?_
   refine ai fun _ k34 => ?_
   refine ai fun _ k35 => ?_
   refine am hP hN rfl ?_
   iterate 8 (refine aj rfl fun _ k0 => ?_; simp only [zO, zT, acs, reduceCtorEq, aa, V, ad, ag, af, ae, Mly.av, ah, bu, hgn]; (repeat refine an ?_); (try refine .inl ?_); apply k0; clear k0; simp only [zP, V])
   refine ao ?_
   apply k35; clear k35; refine kp [1, 2, 3, 4, 6, 7, 9, 10, 11, 12, 13, 14, 53, 59, 80] ?_
   refine cd (fun hc36 => ?_) (fun hc36 => ?_)
   ·(try simp only [zB, reduceCtorEq] at hc36)
    have hnm : nmO m (cP m (O.getD i 0) O a).1 (cAt m (m.nxt (O.getD i 0) (a : Int))) < 0 := hc36
    have hA : mmA m (cP m (O.getD i 0) O a).1 (m.nxt (O.getD i 0) (a : Int)) = (cP m (O.getD i 0) O a).1 ++ [(m.nxt (O.getD i 0) (a : Int))] := if_pos hnm
    refine ai fun _ k37 => ?_
    have hset1 : (gk m (cP m (O.getD i 0) O a).1).set ((m.cls m.nx.length).getD ((m.nx.getD (O.getD i 0).toNat []).getD a 0).toNat 0).toNat ((cP m (O.getD i 0) O a).1.length : Int) = gk m ((cP m (O.getD i 0) O a).1 ++ [(m.nxt (O.getD i 0) (a : Int))]) := qI (by omega) (by show (m.cls m.nx.length).getD ((m.nx.getD (O.getD i 0).toNat []).getD a 0).toNat 0 = _; omega) (by rw [show ((((m.cls m.nx.length).getD ((m.nx.getD (O.getD i 0).toNat []).getD a 0).toNat 0).toNat : Nat) : Int) = cAt m (m.nxt (O.getD i 0) (a : Int)) by show _ = (m.cls m.nx.length).getD ((m.nx.getD (O.getD i 0).toNat []).getD a 0).toNat 0; omega]; exact hnm)
    refine am hP hN rfl ?_
    iterate 9 (refine aj rfl fun _ k0 => ?_; simp only [zO, zT, acs, reduceCtorEq, aa, V, ad, ag, af, ae, Mly.av, ah, bu, hgn]; (repeat refine an ?_); (try refine .inl ?_); apply k0; clear k0; simp only [zP, V, hset1])
    refine ao ?_
    apply k37; clear k37; refine kp [1, 2, 3, 4, 6, 7, 9, 10, 11, 12, 13, 14, 53, 59, 80] ?_
    refine am hP hN rfl ?_
    iterate 5 (refine aj rfl fun _ k0 => ?_; simp only [zO, zT, acs, reduceCtorEq, aa, V, ad, ag, af, ae, Mly.av, ah, bu]; (repeat refine an ?_); (try refine .inl ?_); apply k0; clear k0; simp only [zP, V])
    refine ao ?_
    apply k34; clear k34; refine kp [1, 2, 3, 4, 6, 7, 9, 10, 11, 12, 13, 14, 53, 59, 80] ?_
    refine ai fun _ k38 => ?_
    refine am hP hN rfl ?_
    iterate 11 (refine aj rfl fun _ k0 => ?_; simp only [zO, zT, acs, reduceCtorEq, aa, V, ad, ag, af, ae, Mly.av, ah, bu, hgn]; (repeat refine an ?_); (try refine .inl ?_); apply k0; clear k0; simp only [zP, V])
    refine ao ?_
    apply k38; clear k38; refine kp [1, 2, 3, 4, 6, 7, 9, 10, 11, 12, 13, 14, 53, 59, 80] ?_
    have q2 := hm.ql (O.getD i 0).toNat (by omega)
    have hgx2 : ((cP m (O.getD i 0) O a).1 ++ [((m.nx.getD (O.getD i 0).toNat []).getD a 0)]).getD i 0 = (O.getD i 0) := (lx hil2).trans hgx
    refine bo hP hN Try.mixed rfl ?_
    iterate 15 (refine aj rfl fun _ k0 => ?_; simp only [zO, zT, acs, reduceCtorEq, aa, V, ad, ag, af, ae, Mly.av, ah, bu, hgx, hgx2, ar]; (repeat refine an ?_); (try refine .inl ?_); apply k0; clear k0; simp only [zP, V])
    refine ao ?_
    refine ⟨by kernel_rfl, ?_⟩
    apply k32; clear k32; refine kp [1, 2, 3, 4, 6, 7, 9, 10, 11, 12, 13, 14, 53, 59, 80] ?_
    refine am hP hN rfl ?_
    iterate 3 (refine aj rfl fun _ k0 => ?_; simp only [zO, zT, acs, reduceCtorEq, aa, V, ad, ag, af, ae, Mly.av, ah, bu]; (repeat refine an ?_); (try refine .inl ?_); apply k0; clear k0; simp only [zP, V])
    refine ao ?_
    first
    | (refine ⟨_, _, ?_, az [1, 2, 3, 4, 6, 7, 9, 10, 11, 12, 13, 53], a + 1, v2 + 1, w1 + 1, w2 + 1, RO ++ [(m.ot.getD (O.getD i 0).toNat []).getD a 0], by omega, by rw [ar, hRO]; rfl, rfl, ?_⟩
       · omega
       · rw [fO]; unfold rY; rw [hA]; rfl)
    | (refine ⟨_, _, ?_, az [1, 2, 3, 4, 6, 7, 9, 10, 11, 12, 13, 53], a + 1, v2, w1 + 1, w2 + 1, RO ++ [(m.ot.getD (O.getD i 0).toNat []).getD a 0], by omega, by rw [ar, hRO]; rfl, rfl, ?_⟩
       · omega
       · rw [fO]; unfold rY; rw [hA]; rfl)
   (try simp only [zB, reduceCtorEq] at hc36)
   have hnm : ¬ nmO m (cP m (O.getD i 0) O a).1 (cAt m (m.nxt (O.getD i 0) (a : Int))) < 0 := by have h9 : 0 ≤ nmO m (cP m (O.getD i 0) O a).1 (cAt m (m.nxt (O.getD i 0) (a : Int))) := hc36; omega
   have hA : mmA m (cP m (O.getD i 0) O a).1 (m.nxt (O.getD i 0) (a : Int)) = (cP m (O.getD i 0) O a).1 := if_neg hnm
   refine ay ?_
   apply k34; clear k34; refine kp [1, 2, 3, 4, 6, 7, 9, 10, 11, 12, 13, 14, 53, 59, 80] ?_
   refine ai fun _ k39 => ?_
   refine am hP hN rfl ?_
   iterate 11 (refine aj rfl fun _ k0 => ?_; simp only [zO, zT, acs, reduceCtorEq, aa, V, ad, ag, af, ae, Mly.av, ah, bu, hgn]; (repeat refine an ?_); (try refine .inl ?_); apply k0; clear k0; simp only [zP, V])
   refine ao ?_
   apply k39; clear k39; refine kp [1, 2, 3, 4, 6, 7, 9, 10, 11, 12, 13, 14, 53, 59, 80] ?_
   have q2 := hm.ql (O.getD i 0).toNat (by omega)
   have hgx2 : ((cP m (O.getD i 0) O a).1 ++ [((m.nx.getD (O.getD i 0).toNat []).getD a 0)]).getD i 0 = (O.getD i 0) := (lx hil2).trans hgx
   refine bo hP hN Try.mixed rfl ?_
   iterate 15 (refine aj rfl fun _ k0 => ?_; simp only [zO, zT, acs, reduceCtorEq, aa, V, ad, ag, af, ae, Mly.av, ah, bu, hgx, hgx2, ar]; (repeat refine an ?_); (try refine .inl ?_); apply k0; clear k0; simp only [zP, V])
   refine ao ?_
   refine ⟨by kernel_rfl, ?_⟩
   apply k32; clear k32; refine kp [1, 2, 3, 4, 6, 7, 9, 10, 11, 12, 13, 14, 53, 59, 80] ?_
   refine am hP hN rfl ?_
   iterate 3 (refine aj rfl fun _ k0 => ?_; simp only [zO, zT, acs, reduceCtorEq, aa, V, ad, ag, af, ae, Mly.av, ah, bu]; (repeat refine an ?_); (try refine .inl ?_); apply k0; clear k0; simp only [zP, V])
   refine ao ?_
   first
   | (refine ⟨_, _, ?_, az [1, 2, 3, 4, 6, 7, 9, 10, 11, 12, 13, 53], a + 1, v2 + 1, w1 + 1, w2 + 1, RO ++ [(m.ot.getD (O.getD i 0).toNat []).getD a 0], by omega, by rw [ar, hRO]; rfl, rfl, ?_⟩
      · omega
      · rw [fO]; unfold rY; rw [hA]; rfl)
   | (refine ⟨_, _, ?_, az [1, 2, 3, 4, 6, 7, 9, 10, 11, 12, 13, 53], a + 1, v2, w1 + 1, w2 + 1, RO ++ [(m.ot.getD (O.getD i 0).toNat []).getD a 0], by omega, by rw [ar, hRO]; rfl, rfl, ?_⟩
      · omega
      · rw [fO]; unfold rY; rw [hA]; rfl)
  (try simp only [zB, reduceCtorEq] at hc31)
  have hae : m.inp.toNat = a := by omega
  refine b6 ?_
  apply k26; clear k26; refine kp [1, 2, 3, 4, 6, 7, 9, 10, 11, 12, 13, 53, 59] ?_
  refine ai fun _ k40 => ?_
  refine d8 7 rfl ?_; simp only [aH, bm, zS, aa, and_self, and_true, true_and, and_false, false_and, if_true, if_false, eq_self, reduceCtorEq, Nat.one_ne_zero, Nat.zero_ne_one]
  refine am hP hN rfl ?_
  iterate 7 (refine aj rfl fun _ k0 => ?_; simp only [zO, zT, acs, reduceCtorEq, aa, V, ad, ag, af, ae, Mly.av, ah, bu]; (repeat refine an ?_); (try refine .inl ?_); apply k0; clear k0; simp only [zP, V])
  refine ao ?_
  apply k40; clear k40; refine kp [1, 2, 3, 4, 6, 7, 9, 10, 11, 12, 13, 53, 59] ?_
  refine d8 8 rfl ?_; simp only [aH, bm, zS, aa, and_self, and_true, true_and, and_false, false_and, if_true, if_false, eq_self, reduceCtorEq, Nat.one_ne_zero, Nat.zero_ne_one]
  refine am hP hN rfl ?_
  iterate 7 (refine aj rfl fun _ k0 => ?_; simp only [zO, zT, acs, reduceCtorEq, aa, V, ad, ag, af, ae, Mly.av, ah, bu]; (repeat refine an ?_); (try refine .inl ?_); apply k0; clear k0; simp only [zP, V])
  refine ao ?_
  apply k24; clear k24; refine kp [1, 2, 3, 4, 6, 7, 9, 10, 11, 12, 13, 53, 59] ?_
  refine dv [1, 2, 3, 4, 6, 7, 9, 10] ?_
  simp only [cI, lkp, zE, reduceCtorEq, aa]
  refine cU (n := 8) (L1 := [_, _, _, _, _, _, _, _]) rfl rfl (by rw [hB]; decide) rfl rfl ?_
  refine cU (n := 7) (L1 := [_, _, _, _, _, _, _]) rfl rfl (by rw [hB]; decide) rfl rfl ?_
  obtain ⟨hR1, hR2, rr, hR3⟩ := kq hm hxr hO a (by omega)
  have hRl := hR1.len
  have hil2 : i < (cP m (O.getD i 0) O a).1.length := by rw [hR3, ar]; omega
  refine am hP hN rfl ?_
  iterate 3 (refine aj rfl fun _ k0 => ?_; simp only [zO, zT, acs, reduceCtorEq, aa, V, ad, ag, af, ae, Mly.av, ah, bu]; (repeat refine an ?_); (try refine .inl ?_); apply k0; clear k0; simp only [zP, V])
  refine ao ?_
  refine ⟨_, _, ?_, az [1, 2, 3, 4, 6, 7, 9, 10], i + 1, v2, y + 1, z + 1, (cP m (O.getD i 0) O a).1, RX ++ [(cP m (O.getD i 0) O a).2], RY ++ [RO], by omega, hR1, ⟨by rw [ar, hRl0.1]; rfl, by rw [ar, hRl0.2]; rfl⟩, ?_, rfl, rfl⟩
  · omega
  · rw [← hgo, show m.nx.length + 1 - i = (m.nx.length + 1 - (i + 1)) + 1 by omega, p5 hil, hae]
 (try simp only [zB, reduceCtorEq] at hc23)
 have hie : i = O.length := by omega
 have hfin := sd (m := m) (f := m.nx.length + 1 - i) (i := i) (p := (O, RX)) (by show ¬ i < O.length; omega)
 have hRX : RX = (mmF m).2 := by rw [← hgo, hfin]
 refine b6 ?_
 apply k18; clear k18; refine kp [1, 2, 3, 4, 6, 7, 9, 10, 53] ?_
 refine ai fun _ k41 => ?_
 refine jB 5 4 rfl rfl ?_; simp only [aH, bm, frC, zS, aa, and_self, and_true, true_and, and_false, false_and, if_true, if_false, eq_self, reduceCtorEq, Nat.one_ne_zero, Nat.zero_ne_one]
 refine jB 6 4 rfl rfl ?_; simp only [aH, bm, frC, zS, aa, and_self, and_true, true_and, and_false, false_and, if_true, if_false, eq_self, reduceCtorEq, Nat.one_ne_zero, Nat.zero_ne_one]
 refine am hP hN rfl ?_
 iterate 3 (refine aj rfl fun _ k0 => ?_; simp only [zO, zT, acs, reduceCtorEq, aa, V, ad, ag, af, ae, Mly.av, ah, bu]; (repeat refine an ?_); (try refine .inl ?_); apply k0; clear k0; simp only [zP, V])
 refine ao ?_
 apply k41; clear k41; refine kp [1, 2, 3, 4, 6, 7, 9, 10, 53] ?_
 refine aE ?_
 refine ⟨nr, _, rfl, ?_⟩; simp only [zF, zP, aa, V, Mly.av, ah, bu]
 first
 | (rw [if_neg hv]; exact bI ⟨dA ⟨.refl _, .refl _, bp rfl, bp rfl, trivial⟩, aK (.refl _), trivial⟩)
 | (rw [if_pos hv, hv, ← hRX]; exact bI ⟨dA ⟨.refl _, .refl _, .refl _, fun C L σ w u hu => ⟨hu.1, trivial⟩, trivial⟩, aK (.refl _), trivial⟩)
theorem AW (m : Mly) (hv : aS m = 0) : bJ Try.prog 63 [m.av] (.tup [.agg [.int .i64 m.inp, .int .i64 0, .list (.list (.int .i64)) (mmF m).2, .junk], .one (.int .i64 0)]) := by
  have h := ux m
  rw [if_pos hv, hv] at h; exact h
theorem AD (m : Mly) (hv : ¬ aS m = 0) : bJ Try.prog 63 [m.av] (.tup [Mly.av ⟨0, 0, [], []⟩, .one (.int .i64 (aS m))]) := by
  have h := ux m
  rw [if_neg hv] at h; exact h
theorem vU (m : Mly) (hv : aS m = 0) : bJ Try.prog 44 [m.av] (.one (.bool (mmB m))) := by
 refine aU Try.func44 rfl (by kernel_rfl) (Nat.le_of_ble_eq_true rfl) rfl fun C hP hN hB => ?_
 replace hN : C.N = 21 := hN
 simp only [bc, V]
 refine ai fun _ k1 => ?_
 refine am hP hN rfl ?_
 iterate 2 (refine aj rfl fun _ k0 => ?_; simp only [zO, zT, acs, reduceCtorEq, aa, V, ad, ag, af, ae, Mly.av, ah]; (repeat refine an ?_); (try refine .inl ?_); apply k0; clear k0; simp only [zP, V])
 refine ao ?_
 apply k1; clear k1; refine kp [0, 1, 2] ?_
 refine ai fun _ k2 => ?_
 refine am hP hN rfl ?_
 (refine aj rfl fun _ k0 => ?_; simp only [zO, zT, acs, reduceCtorEq, aa, V, ad, ag, af, ae, Mly.av, ah]; (repeat refine an ?_); (try refine .inl ?_); apply k0; clear k0; simp only [zP, V])
 refine aj rfl fun _ k0 => ?_
 refine aI (h := aA (AW m hv)) rfl rfl (by first | exact rfl | (simp only [ev, zP, aa, V]; exact rfl)) (by simp only [zV, acs, reduceCtorEq, aa, V, ad, ag, af, ae, Mly.av, ah]) ?_
 apply k0; clear k0; simp only [zP, V]
 iterate 6 (refine aj rfl fun _ k0 => ?_; simp only [zO, zT, acs, reduceCtorEq, aa, V, ad, ag, af, ae, Mly.av, ah]; (repeat refine an ?_); (try refine .inl ?_); apply k0; clear k0; simp only [zP, V])
 refine ao ?_
 apply k2; clear k2; refine kp [0, 1, 2, 3, 4] ?_
 refine ai fun _ k3 => ?_
 refine am hP hN rfl ?_
 iterate 3 (refine aj rfl fun _ k0 => ?_; simp only [zO, zT, acs, reduceCtorEq, aa, V, ad, ag, af, ae, Mly.av, ah]; (repeat refine an ?_); (try refine .inl ?_); apply k0; clear k0; simp only [zP, V])
 refine' aO (want := true) 7 rfl (m := 12) (by simp only [zP, aa, V]; exact rfl) (by kernel_rfl) rfl rfl rfl rfl rfl (fun hg4 => ?a4) ?b4 ?c4
 case a4 =>
  have hq4 := hg4; (try simp only [zB, reduceCtorEq] at hg4); simp only [zE]
  iterate 7 (refine aZ rfl fun _ k0 => ?_; simp only [zO, zT, acs, reduceCtorEq, aa, V, ad, ag, af, ae, Mly.av, ah]; (repeat refine an ?_); (try refine .inl ?_); apply k0; clear k0; simp only [zP, V])
  (refine aj rfl fun _ k0 => ?_; simp only [zO, zT, acs, reduceCtorEq, aa, V, ad, ag, af, ae, Mly.av, ah]; (repeat refine an ?_); (try refine .inl ?_); apply k0; clear k0; simp only [zP, V])
  refine ao ?_
  refine ⟨by simp only [zP, aa, V]; exact rfl, rfl, ?_, rfl⟩; (repeat refine aP rfl ?_); exact bn (by exact rfl) hq4
 case b4 => exact cp
 simp only [b7, aV]
 (refine aj rfl fun _ k0 => ?_; simp only [zO, zT, acs, reduceCtorEq, aa, V, ad, ag, af, ae, Mly.av, ah]; (repeat refine an ?_); (try refine .inl ?_); apply k0; clear k0; simp only [zP, V])
 refine ao ?_
 apply k3; clear k3; refine kp [0, 1, 2, 3, 4] ?_
 refine aE ?_
 refine ⟨nr, _, rfl, ?_⟩; simp only [zF, zP, aa, V, Mly.av, ah]
 refine VLE.of_eq ?_
 refine congrArg (fun b => AV.one (AC.bool b)) ?_
 unfold mmB
 rw [decide_eq_true hv]
 simp
 try omega
theorem vS (m : Mly) (hv : ¬ aS m = 0) : bJ Try.prog 44 [m.av] (.one (.bool (mmB m))) := by
 refine aU Try.func44 rfl (by kernel_rfl) (Nat.le_of_ble_eq_true rfl) rfl fun C hP hN hB => ?_
 replace hN : C.N = 21 := hN
 simp only [bc, V]
 refine ai fun _ k1 => ?_
 refine am hP hN rfl ?_
 iterate 2 (refine aj rfl fun _ k0 => ?_; simp only [zO, zT, acs, reduceCtorEq, aa, V, ad, ag, af, ae, Mly.av, ah]; (repeat refine an ?_); (try refine .inl ?_); apply k0; clear k0; simp only [zP, V])
 refine ao ?_
 apply k1; clear k1; refine kp [0, 1, 2] ?_
 refine ai fun _ k2 => ?_
 refine am hP hN rfl ?_
 (refine aj rfl fun _ k0 => ?_; simp only [zO, zT, acs, reduceCtorEq, aa, V, ad, ag, af, ae, Mly.av, ah]; (repeat refine an ?_); (try refine .inl ?_); apply k0; clear k0; simp only [zP, V])
 refine aj rfl fun _ k0 => ?_
 refine aI (h := aA (AD m hv)) rfl rfl (by first | exact rfl | (simp only [ev, zP, aa, V]; exact rfl)) (by simp only [zV, acs, reduceCtorEq, aa, V, ad, ag, af, ae, Mly.av, ah]) ?_
 apply k0; clear k0; simp only [zP, V]
 iterate 6 (refine aj rfl fun _ k0 => ?_; simp only [zO, zT, acs, reduceCtorEq, aa, V, ad, ag, af, ae, Mly.av, ah]; (repeat refine an ?_); (try refine .inl ?_); apply k0; clear k0; simp only [zP, V])
 refine ao ?_
 apply k2; clear k2; refine kp [0, 1, 2, 3, 4] ?_
 refine ai fun _ k3 => ?_
 refine am hP hN rfl ?_
 iterate 3 (refine aj rfl fun _ k0 => ?_; simp only [zO, zT, acs, reduceCtorEq, aa, V, ad, ag, af, ae, Mly.av, ah]; (repeat refine an ?_); (try refine .inl ?_); apply k0; clear k0; simp only [zP, V])
 refine' aO (want := true) 7 rfl (m := 12) (by simp only [zP, aa, V]; exact rfl) (by kernel_rfl) rfl rfl rfl rfl rfl (fun hg4 => ?a4) ?b4 ?c4
 case a4 =>
  have hq4 := hg4; (try simp only [zB, reduceCtorEq] at hg4); simp only [zE]
  iterate 7 (refine aZ rfl fun _ k0 => ?_; simp only [zO, zT, acs, reduceCtorEq, aa, V, ad, ag, af, ae, Mly.av, ah]; (repeat refine an ?_); (try refine .inl ?_); apply k0; clear k0; simp only [zP, V])
  (refine aj rfl fun _ k0 => ?_; simp only [zO, zT, acs, reduceCtorEq, aa, V, ad, ag, af, ae, Mly.av, ah]; (repeat refine an ?_); (try refine .inl ?_); apply k0; clear k0; simp only [zP, V])
  refine ao ?_
  refine ⟨by simp only [zP, aa, V]; exact rfl, rfl, ?_, rfl⟩; (repeat refine aP rfl ?_); exact bn (by exact rfl) hq4
 case b4 => exact cp
 simp only [b7, aV]
 (refine aj rfl fun _ k0 => ?_; simp only [zO, zT, acs, reduceCtorEq, aa, V, ad, ag, af, ae, Mly.av, ah]; (repeat refine an ?_); (try refine .inl ?_); apply k0; clear k0; simp only [zP, V])
 refine ao ?_
 apply k3; clear k3; refine kp [0, 1, 2, 3, 4] ?_
 refine aE ?_
 refine ⟨nr, _, rfl, ?_⟩; simp only [zF, zP, aa, V, Mly.av, ah]
 refine VLE.of_eq ?_
 refine congrArg (fun b => AV.one (AC.bool b)) ?_
 unfold mmB
 rw [decide_eq_false hv]
 simp [hv]
theorem xT (m : Mly) : bJ Try.prog 44 [m.av] (.one (.bool (mmB m))) := by
  by_cases hv : aS m = 0
  · exact vU m hv
  · exact vS m hv
theorem xe (m : Mly) : bJ Try.prog 25 [m.av] (.one (.int .i64 (jh m))) := by
 refine aU Try.func25 rfl (by kernel_rfl) (Nat.le_of_ble_eq_true rfl) rfl fun C hP hN hB => ?_
 replace hN : C.N = 12 := hN
 simp only [bc, V]
 refine ai fun _ k1 => ?_
 refine am hP hN rfl ?_
 iterate 2 (refine aj rfl fun _ k0 => ?_; simp only [zO, zT, acs, reduceCtorEq, aa, V, ad, ag, af, ae, Mly.av]; (repeat refine an ?_); (try refine .inl ?_); apply k0; clear k0; simp only [zP, V])
 refine ao ?_
 apply k1; clear k1; refine kp [0, 1, 2] ?_
 refine ai fun _ k2 => ?_
 refine ai fun _ k3 => ?_
 refine am hP hN rfl ?_
 (refine aj rfl fun _ k0 => ?_; simp only [zO, zT, acs, reduceCtorEq, aa, V, ad, ag, af, ae, Mly.av]; (repeat refine an ?_); (try refine .inl ?_); apply k0; clear k0; simp only [zP, V])
 refine aj rfl fun _ k0 => ?_
 refine aI (h := aA (rk m)) rfl rfl (by first | exact rfl | (simp only [ev, zP, aa, V]; exact rfl)) (by simp only [zV, acs, reduceCtorEq, aa, V, ad, ag, af, ae, Mly.av]) ?_
 apply k0; clear k0; simp only [zP, V]
 (refine aj rfl fun _ k0 => ?_; simp only [zO, zT, acs, reduceCtorEq, aa, V, ad, ag, af, ae, Mly.av]; (repeat refine an ?_); (try refine .inl ?_); apply k0; clear k0; simp only [zP, V])
 refine ao ?_
 apply k3; clear k3; refine kp [0, 1, 2, 3] ?_
 refine ai fun _ k4 => ?_
 refine am hP hN rfl ?_
 iterate 2 (refine aj rfl fun _ k0 => ?_; simp only [zO, zT, acs, reduceCtorEq, aa, V, ad, ag, af, ae, Mly.av]; (repeat refine an ?_); (try refine .inl ?_); apply k0; clear k0; simp only [zP, V])
 refine ao ?_
 apply k4; clear k4; refine kp [0, 1, 2, 3, 7] ?_
 refine cd (fun hc5 => ?_) (fun hc5 => ?_)
 ·(try simp only [zB, reduceCtorEq] at hc5)
  refine ai fun _ k6 => ?_
  refine am hP hN rfl ?_
  iterate 2 (refine aj rfl fun _ k0 => ?_; simp only [zO, zT, acs, reduceCtorEq, aa, V, ad, ag, af, ae, Mly.av]; (repeat refine an ?_); (try refine .inl ?_); apply k0; clear k0; simp only [zP, V])
  refine ao ?_
  apply k6; clear k6; refine kp [0, 1, 2, 3, 7] ?_
  refine aE ?_
  refine ⟨nr, _, rfl, ?_⟩; simp only [zF, zP, aa, V, Mly.av]
  refine VLE.of_eq ?_
  refine congrArg (fun n => AV.one (AC.int IntKind.i64 n)) ?_
  unfold jh
  symm
  first
  | (rw [if_pos (by omega)]; done)
  | (rw [if_neg (by omega), if_neg (by simp_all)]; done)
  | (rw [if_neg (by omega), if_pos (by simp_all)]; done)
 (try simp only [zB, reduceCtorEq] at hc5)
 refine ay ?_
 apply k2; clear k2; refine kp [0, 1, 2, 3, 7] ?_
 refine ai fun _ k7 => ?_
 refine ai fun _ k8 => ?_
 refine am hP hN rfl ?_
 (refine aj rfl fun _ k0 => ?_; simp only [zO, zT, acs, reduceCtorEq, aa, V, ad, ag, af, ae, Mly.av]; (repeat refine an ?_); (try refine .inl ?_); apply k0; clear k0; simp only [zP, V])
 refine aj rfl fun _ k0 => ?_
 refine aI (h := aA (xT m)) rfl rfl (by first | exact rfl | (simp only [ev, zP, aa, V]; exact rfl)) (by simp only [zV, acs, reduceCtorEq, aa, V, ad, ag, af, ae, Mly.av]) ?_
 apply k0; clear k0; simp only [zP, V]
 (refine aj rfl fun _ k0 => ?_; simp only [zO, zT, acs, reduceCtorEq, aa, V, ad, ag, af, ae, Mly.av]; (repeat refine an ?_); (try refine .inl ?_); apply k0; clear k0; simp only [zP, V])
 refine ao ?_
 apply k8; clear k8; refine kp [0, 1, 2, 3, 7, 11] ?_
 refine cd (fun hc9 => ?_) (fun hc9 => ?_)
 ·(try simp only [zB, reduceCtorEq] at hc9)
  refine ai fun _ k10 => ?_
  refine am hP hN rfl ?_
  (refine aj rfl fun _ k0 => ?_; simp only [zO, zT, acs, reduceCtorEq, aa, V, ad, ag, af, ae, Mly.av]; (repeat refine an ?_); (try refine .inl ?_); apply k0; clear k0; simp only [zP, V])
  refine ao ?_
  apply k10; clear k10; refine kp [0, 1, 2, 3, 7, 11] ?_
  refine aE ?_
  refine ⟨nr, _, rfl, ?_⟩; simp only [zF, zP, aa, V, Mly.av]
  refine VLE.of_eq ?_
  refine congrArg (fun n => AV.one (AC.int IntKind.i64 n)) ?_
  unfold jh
  symm
  first
  | (rw [if_pos (by omega)]; done)
  | (rw [if_neg (by omega), if_neg (by simp_all)]; done)
  | (rw [if_neg (by omega), if_pos (by simp_all)]; done)
 (try simp only [zB, reduceCtorEq] at hc9)
 refine ay ?_
 apply k7; clear k7; refine kp [0, 1, 2, 3, 7, 11] ?_
 refine ai fun _ k11 => ?_
 refine am hP hN rfl ?_
 (refine aj rfl fun _ k0 => ?_; simp only [zO, zT, acs, reduceCtorEq, aa, V, ad, ag, af, ae, Mly.av]; (repeat refine an ?_); (try refine .inl ?_); apply k0; clear k0; simp only [zP, V])
 refine ao ?_
 apply k11; clear k11; refine kp [0, 1, 2, 3, 7, 11] ?_
 refine aE ?_
 refine ⟨nr, _, rfl, ?_⟩; simp only [zF, zP, aa, V, Mly.av]
 refine VLE.of_eq ?_
 refine congrArg (fun n => AV.one (AC.int IntKind.i64 n)) ?_
 unfold jh
 symm
 first
 | (rw [if_pos (by omega)]; done)
 | (rw [if_neg (by omega), if_neg (by simp_all)]; done)
 | (rw [if_neg (by omega), if_pos (by simp_all)]; done)
set_option maxHeartbeats 1000000 in
theorem vA (m : Mly) : bJ Try.prog 31 [m.av] (.one (.bool (iO m))) := by
 refine aU Try.func31 rfl (by kernel_rfl) (Nat.le_of_ble_eq_true rfl) rfl fun C hP hN hB => ?_
 replace hN : C.N = 48 := hN
 simp only [bc, V]
 refine ai fun _ k1 => ?_
 refine am hP hN rfl ?_
 iterate 2 (refine aj rfl fun _ k0 => ?_; simp only [zO, zT, acs, reduceCtorEq, aa, V, ad, ag, af, ae, Mly.av, ah]; (repeat refine an ?_); (try refine .inl ?_); apply k0; clear k0; simp only [zP, V])
 refine ao ?_
 apply k1; clear k1; refine kp [0, 1, 2] ?_
 refine ai fun _ k2 => ?_
 refine ai fun _ k3 => ?_
 refine am hP hN rfl ?_
 iterate 5 (refine aj rfl fun _ k0 => ?_; simp only [zO, zT, acs, reduceCtorEq, aa, V, ad, ag, af, ae, Mly.av, ah]; (repeat refine an ?_); (try refine .inl ?_); apply k0; clear k0; simp only [zP, V])
 refine' aO (want := false) 4 rfl (m := 9) (by simp only [zP, aa, V]; exact rfl) (by kernel_rfl) rfl rfl rfl rfl rfl (fun hg4 => ?a4) ?b4 ?c4
 case a4 =>
  have hq4 := hg4; (try simp only [zB, reduceCtorEq] at hg4); simp only [zE]
  iterate 4 (refine aZ rfl fun _ k0 => ?_; simp only [zO, zT, acs, reduceCtorEq, aa, V, ad, ag, af, ae, Mly.av, ah]; (repeat refine an ?_); (try refine .inl ?_); apply k0; clear k0; simp only [zP, V])
  (refine aj rfl fun _ k0 => ?_; simp only [zO, zT, acs, reduceCtorEq, aa, V, ad, ag, af, ae, Mly.av, ah]; (repeat refine an ?_); (try refine .inl ?_); apply k0; clear k0; simp only [zP, V])
  refine ao ?_
  refine ⟨by simp only [zP, aa, V]; exact rfl, rfl, ?_, rfl⟩; (repeat refine aP rfl ?_); exact bn (by exact rfl) hq4
 case b4 => exact cp
 simp only [b7, aV]
 (refine aj rfl fun _ k0 => ?_; simp only [zO, zT, acs, reduceCtorEq, aa, V, ad, ag, af, ae, Mly.av, ah]; (repeat refine an ?_); (try refine .inl ?_); apply k0; clear k0; simp only [zP, V])
 refine' aO (want := false) 3 rfl (m := 15) (by simp only [zP, aa, V]; exact rfl) (by kernel_rfl) rfl rfl rfl rfl rfl (fun hg5 => ?a5) ?b5 ?c5
 case a5 =>
  have hq5 := hg5; (try simp only [zB, reduceCtorEq] at hg5); simp only [zE]
  iterate 3 (refine aZ rfl fun _ k0 => ?_; simp only [zO, zT, acs, reduceCtorEq, aa, V, ad, ag, af, ae, Mly.av, ah]; (repeat refine an ?_); (try refine .inl ?_); apply k0; clear k0; simp only [zP, V])
  (refine aj rfl fun _ k0 => ?_; simp only [zO, zT, acs, reduceCtorEq, aa, V, ad, ag, af, ae, Mly.av, ah]; (repeat refine an ?_); (try refine .inl ?_); apply k0; clear k0; simp only [zP, V])
  refine ao ?_
  refine ⟨by simp only [zP, aa, V]; exact rfl, rfl, ?_, rfl⟩; (repeat refine aP rfl ?_); exact bn (by exact rfl) hq5
 case b5 => exact cp
 simp only [b7, aV]
 refine ao ?_
 apply k3; clear k3; refine kp [0, 1, 2, 19] ?_
 refine cd (fun hc6 => ?_) (fun hc6 => ?_)
 ·(try simp only [zB, reduceCtorEq] at hc6)
  have hg : iO m = true := AU (Or.elim hc6 (fun h9 => .inl (Or.elim h9 (fun h8 => .inl (by have h7 : (12 : Int) < (m.nx.length : Int) := h8; omega)) (fun h8 => .inr (by have h7 : (12 : Int) < (m.ot.length : Int) := h8; omega)))) (fun h9 => .inr h9))
  refine ai fun _ k7 => ?_
  refine am hP hN rfl ?_
  (refine aj rfl fun _ k0 => ?_; simp only [zO, zT, acs, reduceCtorEq, aa, V, ad, ag, af, ae, Mly.av, ah]; (repeat refine an ?_); (try refine .inl ?_); apply k0; clear k0; simp only [zP, V])
  refine ao ?_
  apply k7; clear k7; refine kp [0, 1, 2, 19] ?_
  refine aE ?_
  refine ⟨nr, _, rfl, ?_⟩; simp only [zF, zP, aa, V, Mly.av, ah]
  refine VLE.of_eq ?_
  refine congrArg (fun b => AV.one (AC.bool b)) ?_
  symm
  first
  | exact hg
  | exact oc hg0 hqN (fun q h => hqo q (by omega))
 (try simp only [zB, reduceCtorEq] at hc6)
 have hg0 : ¬ ((12 < m.nx.length ∨ 12 < m.ot.length) ∨ 6 < m.inp) := by
   have h7 : (m.nx.length : Int) ≤ 12 := hc6.1.1
   have h8 : (m.ot.length : Int) ≤ 12 := hc6.1.2
   have h9 : m.inp ≤ 6 := hc6.2
   omega
 refine ay ?_
 apply k2; clear k2; refine kp [0, 1, 2, 19] ?_
 refine ai fun _ k8 => ?_
 refine ai fun _ k9 => ?_
 refine am hP hN rfl ?_
 iterate 4 (refine aj rfl fun _ k0 => ?_; simp only [zO, zT, acs, reduceCtorEq, aa, V, ad, ag, af, ae, Mly.av, ah]; (repeat refine an ?_); (try refine .inl ?_); apply k0; clear k0; simp only [zP, V])
 refine ao ?_
 apply k9; clear k9; refine kp [0, 1, 2, 19, 22, 23] ?_
 refine aC ?_
 refine bf (fun n10 s10 => ∃ (k : Nat), (k ≤ m.nx.length) ∧ (∀ q, q < k → (m.nx.getD q []).length ≤ 12) ∧ n10 = m.nx.length - k ∧ s10 = { env := [(1, .one (.ptr 0 0 0 0)), (2, .one (.bool false)), (22, .one (.int .i64 (m.nx.length : Int))), (23, .one (.int .i64 (k : Int)))], L := [.vars 24 [.int .i64 m.inp, .int .i64 m.st, .list (.list (.int .i64)) m.nx, .list (.list (.int .i64)) m.ot]] }) ?_ ?_
 ·exact ⟨_, _, az [1, 2, 22, 23], 0, Nat.zero_le _, fun q h => by omega, rfl, rfl⟩
 rintro n10 s10 ⟨k, hkn, hqn, rfl, rfl⟩
 refine ai fun _ k11 => ?_
 refine am hP hN rfl ?_
 (refine aj rfl fun _ k0 => ?_; simp only [zO, zT, acs, reduceCtorEq, aa, V, ad, ag, af, ae, Mly.av, ah]; (repeat refine an ?_); (try refine .inl ?_); apply k0; clear k0; simp only [zP, V])
 refine ao ?_
 apply k11; clear k11; refine kp [1, 2, 22, 23, 24] ?_
 refine ai fun _ k12 => ?_
 refine cd (fun hc13 => ?_) (fun hc13 => ?_)
 ·(try simp only [zB, reduceCtorEq] at hc13)
  refine ay ?_
  apply k12; clear k12; refine kp [1, 2, 22, 23, 24] ?_
  refine ai fun _ k14 => ?_
  refine aC ?_
  refine ai fun _ k15 => ?_
  refine am hP hN rfl ?_
  iterate 2 (refine aj rfl fun _ k0 => ?_; simp only [zO, zT, acs, reduceCtorEq, aa, V, ad, ag, af, ae, Mly.av, ah]; (repeat refine an ?_); (try refine .inl ?_); apply k0; clear k0; simp only [zP, V])
  refine ao ?_
  apply k15; clear k15; refine kp [1, 2, 3, 22, 23, 24] ?_
  refine ai fun _ k16 => ?_
  refine am hP hN rfl ?_
  iterate 7 (refine aj rfl fun _ k0 => ?_; simp only [zO, zT, acs, reduceCtorEq, aa, V, ad, ag, af, ae, Mly.av, ah]; (repeat refine an ?_); (try refine .inl ?_); apply k0; clear k0; simp only [zP, V])
  refine ao ?_
  apply k16; clear k16; refine kp [1, 2, 3, 22, 23, 24, 32] ?_
  refine cd (fun hc17 => ?_) (fun hc17 => ?_)
  ·(try simp only [zB, reduceCtorEq] at hc17)
   have hg : iO m = true := B0 (k := k) (by omega) (by have h7 : (12 : Int) < ((m.nx.getD k []).length : Int) := hc17; omega)
   refine ai fun _ k18 => ?_
   refine am hP hN rfl ?_
   (refine aj rfl fun _ k0 => ?_; simp only [zO, zT, acs, reduceCtorEq, aa, V, ad, ag, af, ae, Mly.av, ah]; (repeat refine an ?_); (try refine .inl ?_); apply k0; clear k0; simp only [zP, V])
   refine ao ?_
   apply k18; clear k18; refine kp [1, 2, 3, 22, 23, 24, 32] ?_
   refine aE ?_
   refine ⟨nr, _, rfl, ?_⟩; simp only [zF, zP, aa, V, Mly.av, ah]
   refine VLE.of_eq ?_
   refine congrArg (fun b => AV.one (AC.bool b)) ?_
   symm
   first
   | exact hg
   | exact oc hg0 hqN (fun q h => hqo q (by omega))
  (try simp only [zB, reduceCtorEq] at hc17)
  have hrow : (m.nx.getD k []).length ≤ 12 := by have h7 : ((m.nx.getD k []).length : Int) ≤ 12 := hc17; omega
  refine ay ?_
  apply k14; clear k14; refine kp [1, 2, 3, 22, 23, 24, 32] ?_
  refine am hP hN rfl ?_
  iterate 2 (refine aj rfl fun _ k0 => ?_; simp only [zO, zT, acs, reduceCtorEq, aa, V, ad, ag, af, ae, Mly.av, ah]; (repeat refine an ?_); (try refine .inl ?_); apply k0; clear k0; simp only [zP, V])
  refine ao ?_
  refine ⟨_, _, ?_, az [1, 2, 22, 23], k + 1, by omega, fun q h => ?_, rfl, rfl⟩
  · omega
  · by_cases e : q = k
    · rw [e]; exact hrow
    · exact hqn q (by omega)
 (try simp only [zB, reduceCtorEq] at hc13)
 refine b6 ?_
 apply k8; clear k8; refine kp [1, 2, 22, 23, 24] ?_
 refine ai fun _ k19 => ?_
 refine ai fun _ k20 => ?_
 have hqN : ∀ q, q < m.nx.length → (m.nx.getD q []).length ≤ 12 := fun q h => hqn q (by omega)
 have hkn9 := hkn
 clear hqn
 refine am hP hN rfl ?_
 iterate 4 (refine aj rfl fun _ k0 => ?_; simp only [zO, zT, acs, reduceCtorEq, aa, V, ad, ag, af, ae, Mly.av, ah]; (repeat refine an ?_); (try refine .inl ?_); apply k0; clear k0; simp only [zP, V])
 refine ao ?_
 apply k20; clear k20; refine kp [1, 2, 22, 23, 24, 36, 37] ?_
 refine aC ?_
 refine bf (fun n21 s21 => ∃ (k : Nat), (k ≤ m.ot.length) ∧ (∀ q, q < k → (m.ot.getD q []).length ≤ 12) ∧ n21 = m.ot.length - k ∧ s21 = { env := [(1, .one (.ptr 0 0 0 0)), (2, .one (.bool false)), (36, .one (.int .i64 (m.ot.length : Int))), (37, .one (.int .i64 (k : Int)))], L := [.vars 24 [.int .i64 m.inp, .int .i64 m.st, .list (.list (.int .i64)) m.nx, .list (.list (.int .i64)) m.ot]] }) ?_ ?_
 ·exact ⟨_, _, az [1, 2, 36, 37], 0, Nat.zero_le _, fun q h => by omega, rfl, rfl⟩
 rintro n21 s21 ⟨k, hko, hqo, rfl, rfl⟩
 refine ai fun _ k22 => ?_
 refine am hP hN rfl ?_
 (refine aj rfl fun _ k0 => ?_; simp only [zO, zT, acs, reduceCtorEq, aa, V, ad, ag, af, ae, Mly.av, ah]; (repeat refine an ?_); (try refine .inl ?_); apply k0; clear k0; simp only [zP, V])
 refine ao ?_
 apply k22; clear k22; refine kp [1, 2, 36, 37, 38] ?_
 refine ai fun _ k23 => ?_
 refine cd (fun hc24 => ?_) (fun hc24 => ?_)
 ·(try simp only [zB, reduceCtorEq] at hc24)
  refine ay ?_
  apply k23; clear k23; refine kp [1, 2, 36, 37, 38] ?_
  refine ai fun _ k25 => ?_
  refine aC ?_
  refine ai fun _ k26 => ?_
  refine am hP hN rfl ?_
  iterate 2 (refine aj rfl fun _ k0 => ?_; simp only [zO, zT, acs, reduceCtorEq, aa, V, ad, ag, af, ae, Mly.av, ah]; (repeat refine an ?_); (try refine .inl ?_); apply k0; clear k0; simp only [zP, V])
  refine ao ?_
  apply k26; clear k26; refine kp [1, 2, 4, 36, 37, 38] ?_
  refine ai fun _ k27 => ?_
  refine am hP hN rfl ?_
  iterate 7 (refine aj rfl fun _ k0 => ?_; simp only [zO, zT, acs, reduceCtorEq, aa, V, ad, ag, af, ae, Mly.av, ah]; (repeat refine an ?_); (try refine .inl ?_); apply k0; clear k0; simp only [zP, V])
  refine ao ?_
  apply k27; clear k27; refine kp [1, 2, 4, 36, 37, 38, 46] ?_
  refine cd (fun hc28 => ?_) (fun hc28 => ?_)
  ·(try simp only [zB, reduceCtorEq] at hc28)
   have hg : iO m = true := AB (k := k) (by omega) (by have h7 : (12 : Int) < ((m.ot.getD k []).length : Int) := hc28; omega)
   refine ai fun _ k29 => ?_
   refine am hP hN rfl ?_
   (refine aj rfl fun _ k0 => ?_; simp only [zO, zT, acs, reduceCtorEq, aa, V, ad, ag, af, ae, Mly.av, ah]; (repeat refine an ?_); (try refine .inl ?_); apply k0; clear k0; simp only [zP, V])
   refine ao ?_
   apply k29; clear k29; refine kp [1, 2, 4, 36, 37, 38, 46] ?_
   refine aE ?_
   refine ⟨nr, _, rfl, ?_⟩; simp only [zF, zP, aa, V, Mly.av, ah]
   refine VLE.of_eq ?_
   refine congrArg (fun b => AV.one (AC.bool b)) ?_
   symm
   first
   | exact hg
   | exact oc hg0 hqN (fun q h => hqo q (by omega))
  (try simp only [zB, reduceCtorEq] at hc28)
  have hrow : (m.ot.getD k []).length ≤ 12 := by have h7 : ((m.ot.getD k []).length : Int) ≤ 12 := hc28; omega
  refine ay ?_
  apply k25; clear k25; refine kp [1, 2, 4, 36, 37, 38, 46] ?_
  refine am hP hN rfl ?_
  iterate 2 (refine aj rfl fun _ k0 => ?_; simp only [zO, zT, acs, reduceCtorEq, aa, V, ad, ag, af, ae, Mly.av, ah]; (repeat refine an ?_); (try refine .inl ?_); apply k0; clear k0; simp only [zP, V])
  refine ao ?_
  refine ⟨_, _, ?_, az [1, 2, 36, 37], k + 1, by omega, fun q h => ?_, rfl, rfl⟩
  · omega
  · by_cases e : q = k
    · rw [e]; exact hrow
    · exact hqo q (by omega)
 (try simp only [zB, reduceCtorEq] at hc24)
 refine b6 ?_
 apply k19; clear k19; refine kp [1, 2, 36, 37, 38] ?_
 refine ai fun _ k30 => ?_
 refine am hP hN rfl ?_
 (refine aj rfl fun _ k0 => ?_; simp only [zO, zT, acs, reduceCtorEq, aa, V, ad, ag, af, ae, Mly.av, ah]; (repeat refine an ?_); (try refine .inl ?_); apply k0; clear k0; simp only [zP, V])
 refine ao ?_
 apply k30; clear k30; refine kp [1, 2, 36, 37, 38] ?_
 refine aE ?_
 refine ⟨nr, _, rfl, ?_⟩; simp only [zF, zP, aa, V, Mly.av, ah]
 refine VLE.of_eq ?_
 refine congrArg (fun b => AV.one (AC.bool b)) ?_
 symm
 first
 | exact hg
 | exact oc hg0 hqN (fun q h => hqo q (by omega))
theorem vZ (m : Mly) : bJ Try.prog 9 [m.av] (.one (.bool (uy m))) := by
 refine aU Try.func9 rfl (by kernel_rfl) (Nat.le_of_ble_eq_true rfl) rfl fun C hP hN hB => ?_
 replace hN : C.N = 17 := hN
 simp only [bc, V]
 refine ai fun _ k1 => ?_
 refine am hP hN rfl ?_
 iterate 2 (refine aj rfl fun _ k0 => ?_; simp only [zO, zT, acs, reduceCtorEq, aa, V, ad, ag, af, ae, Mly.av]; (repeat refine an ?_); (try refine .inl ?_); apply k0; clear k0; simp only [zP, V])
 refine ao ?_
 apply k1; clear k1; refine kp [0, 1, 2] ?_
 refine ai fun _ k2 => ?_
 refine am hP hN rfl ?_
 (refine aj rfl fun _ k0 => ?_; simp only [zO, zT, acs, reduceCtorEq, aa, V, ad, ag, af, ae, Mly.av]; (repeat refine an ?_); (try refine .inl ?_); apply k0; clear k0; simp only [zP, V])
 refine aj rfl fun _ k0 => ?_
 refine aI (h := aA (vA m)) rfl rfl (by first | exact rfl | (simp only [ev, zP, aa, V]; exact rfl)) (by simp only [zV, acs, reduceCtorEq, aa, V, ad, ag, af, ae, Mly.av]) ?_
 apply k0; clear k0; simp only [zP, V]
 iterate 2 (refine aj rfl fun _ k0 => ?_; simp only [zO, zT, acs, reduceCtorEq, aa, V, ad, ag, af, ae, Mly.av]; (repeat refine an ?_); (try refine .inl ?_); apply k0; clear k0; simp only [zP, V])
 refine' aO (want := true) 4 rfl (m := 6) (by simp only [zP, aa, V]; exact rfl) (by kernel_rfl) rfl rfl rfl rfl rfl (fun hg3 => ?a3) ?b3 ?c3
 case a3 =>
  have hq3 := hg3; (try simp only [zB, reduceCtorEq] at hg3); simp only [zE]
  iterate 4 (refine aZ rfl fun _ k0 => ?_; simp only [zO, zT, acs, reduceCtorEq, aa, V, ad, ag, af, ae, Mly.av]; (repeat refine an ?_); (try refine .inl ?_); apply k0; clear k0; simp only [zP, V])
  (refine aj rfl fun _ k0 => ?_; simp only [zO, zT, acs, reduceCtorEq, aa, V, ad, ag, af, ae, Mly.av]; (repeat refine an ?_); (try refine .inl ?_); apply k0; clear k0; simp only [zP, V])
  refine ao ?_
  refine ⟨by simp only [zP, aa, V]; exact rfl, rfl, ?_, rfl⟩; (repeat refine aP rfl ?_); exact bn (by exact rfl) hq3
 case b3 => exact cp
 simp only [b7, aV]
 (refine aj rfl fun _ k0 => ?_; simp only [zO, zT, acs, reduceCtorEq, aa, V, ad, ag, af, ae, Mly.av]; (repeat refine an ?_); (try refine .inl ?_); apply k0; clear k0; simp only [zP, V])
 refine' aO (want := true) 3 rfl (m := 12) (by simp only [zP, aa, V]; exact rfl) (by kernel_rfl) rfl rfl rfl rfl rfl (fun hg4 => ?a4) ?b4 ?c4
 case a4 =>
  have hq4 := hg4; (try simp only [zB, reduceCtorEq] at hg4); simp only [zE]
  iterate 3 (refine aZ rfl fun _ k0 => ?_; simp only [zO, zT, acs, reduceCtorEq, aa, V, ad, ag, af, ae, Mly.av]; (repeat refine an ?_); (try refine .inl ?_); apply k0; clear k0; simp only [zP, V])
  (refine aj rfl fun _ k0 => ?_; simp only [zO, zT, acs, reduceCtorEq, aa, V, ad, ag, af, ae, Mly.av]; (repeat refine an ?_); (try refine .inl ?_); apply k0; clear k0; simp only [zP, V])
  refine ao ?_
  refine ⟨by simp only [zP, aa, V]; exact rfl, rfl, ?_, rfl⟩; (repeat refine aP rfl ?_); exact bn (by exact rfl) hq4
 case b4 => exact cp
 simp only [b7, aV]
 (refine aj rfl fun _ k0 => ?_; simp only [zO, zT, acs, reduceCtorEq, aa, V, ad, ag, af, ae, Mly.av]; (repeat refine an ?_); (try refine .inl ?_); apply k0; clear k0; simp only [zP, V])
 refine ao ?_
 apply k2; clear k2; refine kp [0, 1, 2] ?_
 refine aE ?_
 refine ⟨nr, _, rfl, ?_⟩; simp only [zF, zP, aa, V, Mly.av]
 refine VLE.of_eq ?_
 refine congrArg (fun b => AV.one (AC.bool b)) ?_
 unfold uy
 rw [show decide ((m.nx.length : Int) ≤ 8) = decide (m.nx.length ≤ 8) by rw [decide_eq_decide]; omega]
theorem vH (v w : List Int) (hv : v.length ≤ 1000000) (hw : w.length ≤ 1000000) : bJ Try.prog 27 [.one (.list (.int .i64) v), .one (.list (.int .i64) w)] (.one (.int .i64 (dN v w : Int))) := by
 obtain ⟨n, hn⟩ : ∃ n, n = min v.length w.length := ⟨_, rfl⟩
 have hnm : min (v.length : Int) (w.length : Int) = (n : Int) := by omega
 refine aU Try.func27 rfl (by kernel_rfl) (Nat.le_of_ble_eq_true rfl) rfl fun C hP hN hB => ?_
 replace hN : C.N = 30 := hN
 simp only [bc, V]
 refine ai fun _ k1 => ?_
 refine am hP hN rfl ?_
 (refine aj rfl fun _ k0 => ?_; simp only [zO, zT, acs, reduceCtorEq, aa, V, ad, ag, af, ae, ah]; (repeat refine an ?_); (try refine .inl ?_); apply k0; clear k0; simp only [zP, V])
 refine ao ?_
 apply k1; clear k1; refine kp [0, 1, 4] ?_
 refine ai fun _ k2 => ?_
 refine ai fun _ k3 => ?_
 refine am hP hN rfl ?_
 iterate 6 (refine aj rfl fun _ k0 => ?_; simp only [zO, zT, acs, reduceCtorEq, aa, V, ad, ag, af, ae, ah]; (repeat refine an ?_); (try refine .inl ?_); apply k0; clear k0; simp only [zP, V])
 refine ao ?_
 apply k3; clear k3; refine kp [0, 1, 4, 10, 11] ?_
 refine aC ?_
 refine bf (fun n4 s4 => ∃ (k : Nat), (k ≤ n) ∧ (∀ j, j < k → v.getD j 0 = w.getD j 0) ∧ n4 = n - k ∧ s4 = { env := [(0, .one (.list (.int .i64) v)), (1, .one (.list (.int .i64) w)), (4, .one (.int .i64 0)), (10, .one (.int .i64 (n : Int))), (11, .one (.int .i64 (k : Int)))], L := [] }) ?_ ?_
 ·refine ⟨_, _, az [0, 1, 4, 10, 11], 0, Nat.zero_le _, fun j h => by omega, rfl, ?_⟩
  rw [← hnm]; rfl
 rintro n4 s4 ⟨k, hk, hj, rfl, rfl⟩
 refine ai fun _ k5 => ?_
 refine am hP hN rfl ?_
 (refine aj rfl fun _ k0 => ?_; simp only [zO, zT, acs, reduceCtorEq, aa, V, ad, ag, af, ae, ah]; (repeat refine an ?_); (try refine .inl ?_); apply k0; clear k0; simp only [zP, V])
 refine ao ?_
 apply k5; clear k5; refine kp [0, 1, 4, 10, 11, 12] ?_
 refine ai fun _ k6 => ?_
 refine cd (fun hc7 => ?_) (fun hc7 => ?_)
 ·(try simp only [zB, reduceCtorEq] at hc7)
  refine ay ?_
  apply k6; clear k6; refine kp [0, 1, 4, 10, 11, 12] ?_
  refine ai fun _ k8 => ?_
  refine aC ?_
  refine ai fun _ k9 => ?_
  have hkv : k < v.length := by omega
  have hkw : k < w.length := by omega
  refine am hP hN rfl ?_
  iterate 2 (refine aj rfl fun _ k0 => ?_; simp only [zO, zT, acs, reduceCtorEq, aa, V, ad, ag, af, ae, ah]; (repeat refine an ?_); (try refine .inl ?_); apply k0; clear k0; simp only [zP, V])
  refine ao ?_
  apply k9; clear k9; refine kp [0, 1, 4, 5, 10, 11, 12] ?_
  refine ai fun _ k10 => ?_
  refine bo hP hN Try.mixed rfl ?_
  iterate 9 (refine aj rfl fun _ k0 => ?_; simp only [zO, zT, acs, reduceCtorEq, aa, V, ad, ag, af, ae, ah]; (repeat refine an ?_); (try refine .inl ?_); apply k0; clear k0; simp only [zP, V])
  refine ao ?_
  refine ⟨by kernel_rfl, ?_⟩
  apply k10; clear k10; refine kp [0, 1, 4, 5, 10, 11, 12, 22] ?_
  refine cd (fun hc11 => ?_) (fun hc11 => ?_)
  ·(try simp only [zB, reduceCtorEq] at hc11)
   have hne : ¬ v.getD k 0 = w.getD k 0 := hc11
   refine ai fun _ k12 => ?_
   refine am hP hN rfl ?_
   iterate 2 (refine aj rfl fun _ k0 => ?_; simp only [zO, zT, acs, reduceCtorEq, aa, V, ad, ag, af, ae, ah]; (repeat refine an ?_); (try refine .inl ?_); apply k0; clear k0; simp only [zP, V])
   refine ao ?_
   apply k12; clear k12; refine kp [0, 1, 4, 5, 10, 11, 12, 22] ?_
   refine aE ?_
   refine ⟨nr, _, rfl, ?_⟩; simp only [zF, zP, aa, V, ah]
   refine VLE.of_eq ?_
   refine congrArg (fun n => AV.one (AC.int IntKind.i64 n)) ?_
   symm
   first
   | exact congrArg Int.ofNat (mM (by omega) (by omega) hj hne)
   | (rw [hnm, ← hkn]; exact congrArg Int.ofNat (lr (by omega) (by omega) hj (by omega)))
  (try simp only [zB, reduceCtorEq] at hc11)
  have heq : v.getD k 0 = w.getD k 0 := by simpa using hc11
  refine ay ?_
  apply k8; clear k8; refine kp [0, 1, 4, 5, 10, 11, 12, 22] ?_
  refine am hP hN rfl ?_
  iterate 2 (refine aj rfl fun _ k0 => ?_; simp only [zO, zT, acs, reduceCtorEq, aa, V, ad, ag, af, ae, ah]; (repeat refine an ?_); (try refine .inl ?_); apply k0; clear k0; simp only [zP, V])
  refine ao ?_
  refine ⟨_, _, ?_, az [0, 1, 4, 10, 11], k + 1, by omega, fun j h => ?_, rfl, rfl⟩
  · omega
  · by_cases e : j = k
    · rw [e]; exact heq
    · exact hj j (by omega)
 (try simp only [zB, reduceCtorEq] at hc7)
 refine b6 ?_
 apply k2; clear k2; refine kp [0, 1, 4, 10, 11, 12] ?_
 refine ai fun _ k13 => ?_
 have hkn : k = n := by omega
 refine am hP hN rfl ?_
 iterate 6 (refine aj rfl fun _ k0 => ?_; simp only [zO, zT, acs, reduceCtorEq, aa, V, ad, ag, af, ae, ah]; (repeat refine an ?_); (try refine .inl ?_); apply k0; clear k0; simp only [zP, V])
 refine ao ?_
 apply k13; clear k13; refine kp [0, 1, 4, 10, 11, 12] ?_
 refine aE ?_
 refine ⟨nr, _, rfl, ?_⟩; simp only [zF, zP, aa, V, ah]
 refine VLE.of_eq ?_
 refine congrArg (fun n => AV.one (AC.int IntKind.i64 n)) ?_
 symm
 first
 | exact congrArg Int.ofNat (mM (by omega) (by omega) hj hne)
 | (rw [hnm, ← hkn]; exact congrArg Int.ofNat (lr (by omega) (by omega) hj (by omega)))
set_option maxHeartbeats 3000000 in
theorem Ay (m : Mly) : bJ Try.prog 7 [m.av] (.one (.bool true)) := by
 refine aU Try.func7 rfl (by kernel_rfl) (Nat.le_of_ble_eq_true rfl) rfl fun C hP hN hB => ?_
 replace hN : C.N = 173 := hN
 simp only [bc, V]
 refine ai fun _ k1 => ?_
 refine am hP hN rfl ?_
 iterate 2 (refine aj rfl fun _ k0 => ?_; simp only [zO, zT, acs, reduceCtorEq, aa, V, ad, ag, af, ae, Mly.av, ah, ax, aB]; (repeat refine an ?_); (try refine .inl ?_); apply k0; clear k0; simp only [zP, V])
 refine ao ?_
 apply k1; clear k1; refine kp [0, 1, 2] ?_
 refine ai fun _ k2 => ?_
 refine ai fun _ k3 => ?_
 refine am hP hN rfl ?_
 (refine aj rfl fun _ k0 => ?_; simp only [zO, zT, acs, reduceCtorEq, aa, V, ad, ag, af, ae, Mly.av, ah, ax, aB]; (repeat refine an ?_); (try refine .inl ?_); apply k0; clear k0; simp only [zP, V])
 refine aj rfl fun _ k0 => ?_
 refine aI (h := aA (vZ m)) rfl rfl (by first | exact rfl | (simp only [ev, zP, aa, V]; exact rfl)) (by simp only [zV, acs, reduceCtorEq, aa, V, ad, ag, af, ae, Mly.av, ah, ax, aB]) ?_
 apply k0; clear k0; simp only [zP, V]
 iterate 2 (refine aj rfl fun _ k0 => ?_; simp only [zO, zT, acs, reduceCtorEq, aa, V, ad, ag, af, ae, Mly.av, ah, ax, aB]; (repeat refine an ?_); (try refine .inl ?_); apply k0; clear k0; simp only [zP, V])
 refine' aO (want := false) 3 rfl (m := 27) (by simp only [zP, aa, V]; exact rfl) (by kernel_rfl) rfl rfl rfl rfl rfl (fun hg4 => ?a4) ?b4 ?c4
 case a4 =>
  have hq4 := hg4; (try simp only [zB, reduceCtorEq] at hg4); simp only [zE]
  (refine aZ rfl fun _ k0 => ?_; simp only [zO, zT, acs, reduceCtorEq, aa, V, ad, ag, af, ae, Mly.av, ah, ax, aB]; (repeat refine an ?_); (try refine .inl ?_); apply k0; clear k0; simp only [zP, V])
  refine aZ rfl fun _ k0 => ?_
  refine aI (h := aA (xe m)) rfl rfl (by first | exact rfl | (simp only [ev, zP, aa, V]; exact rfl)) (by simp only [zV, acs, reduceCtorEq, aa, V, ad, ag, af, ae, Mly.av, ah, ax, aB]) ?_
  apply k0; clear k0; simp only [zP, V]
  (refine aZ rfl fun _ k0 => ?_; simp only [zO, zT, acs, reduceCtorEq, aa, V, ad, ag, af, ae, Mly.av, ah, ax, aB]; (repeat refine an ?_); (try refine .inl ?_); apply k0; clear k0; simp only [zP, V])
  (refine aj rfl fun _ k0 => ?_; simp only [zO, zT, acs, reduceCtorEq, aa, V, ad, ag, af, ae, Mly.av, ah, ax, aB]; (repeat refine an ?_); (try refine .inl ?_); apply k0; clear k0; simp only [zP, V])
  refine ao ?_
  refine ⟨by simp only [zP, aa, V]; exact rfl, rfl, ?_, rfl⟩; (repeat refine aP rfl ?_); exact bn (by exact rfl) hq4
 case b4 => exact cp
 simp only [b7, aV]
 refine ao ?_
 apply k3; clear k3; refine kp [0, 1, 2, 31] ?_
 refine cd (fun hc5 => ?_) (fun hc5 => ?_)
 ·(try simp only [zB, reduceCtorEq] at hc5)
  refine ai fun _ k6 => ?_
  refine am hP hN rfl ?_
  refine aj rfl fun _ k0 => ?_
  refine aI (h := aA wK) rfl rfl (by first | exact rfl | (simp only [ev, zP, aa, V]; exact rfl)) (by simp only [zV, acs, reduceCtorEq, aa, V, ad, ag, af, ae, Mly.av, ah, ax, aB]) ?_
  apply k0; clear k0; simp only [zP, V]
  (refine aj rfl fun _ k0 => ?_; simp only [zO, zT, acs, reduceCtorEq, aa, V, ad, ag, af, ae, Mly.av, ah, ax, aB]; (repeat refine an ?_); (try refine .inl ?_); apply k0; clear k0; simp only [zP, V])
  refine ao ?_
  apply k6; clear k6; refine kp [0, 1, 2, 31] ?_
  refine aE ?_
  refine ⟨nr, _, rfl, ?_⟩; simp only [zF, zP, aa, V, Mly.av, ah, ax, aB]
  refine VLE.of_eq ?_
  rfl
 (try simp only [zB, reduceCtorEq] at hc5)
 have hk := Av hc5.1 hc5.2
 have hn8 := hk.n8
 have hbl := (iX hk.ok hn8).1
 refine ay ?_
 apply k2; clear k2; refine kp [0, 1, 2, 31] ?_
 refine ai fun _ k7 => ?_
 refine am hP hN rfl ?_
 (refine aj rfl fun _ k0 => ?_; simp only [zO, zT, acs, reduceCtorEq, aa, V, ad, ag, af, ae, Mly.av, ah, ax, aB]; (repeat refine an ?_); (try refine .inl ?_); apply k0; clear k0; simp only [zP, V])
 refine aj rfl fun _ k0 => ?_
 refine aI (h := aA (vL m hk)) rfl rfl (by first | exact rfl | (simp only [ev, zP, aa, V]; exact rfl)) (by simp only [zV, acs, reduceCtorEq, aa, V, ad, ag, af, ae, Mly.av, ah, ax, aB]) ?_
 apply k0; clear k0; simp only [zP, V]
 iterate 8 (refine aj rfl fun _ k0 => ?_; simp only [zO, zT, acs, reduceCtorEq, aa, V, ad, ag, af, ae, Mly.av, ah, ax, aB]; (repeat refine an ?_); (try refine .inl ?_); apply k0; clear k0; simp only [zP, V])
 refine ao ?_
 apply k7; clear k7; refine kp [0, 1, 2, 3, 4, 5, 31] ?_
 refine ai fun _ k8 => ?_
 refine ai fun _ k9 => ?_
 refine am hP hN rfl ?_
 iterate 3 (refine aj rfl fun _ k0 => ?_; simp only [zO, zT, acs, reduceCtorEq, aa, V, ad, ag, af, ae, Mly.av, ah, ax, aB]; (repeat refine an ?_); (try refine .inl ?_); apply k0; clear k0; simp only [zP, V])
 refine' aO (want := false) 4 rfl (m := 41) (by simp only [zP, aa, V]; exact rfl) (by kernel_rfl) rfl rfl rfl rfl rfl (fun hg10 => ?a10) ?b10 ?c10
 case a10 =>
  have hq10 := hg10; (try simp only [zB, reduceCtorEq] at hg10); simp only [zE]
  iterate 2 (refine aZ rfl fun _ k0 => ?_; simp only [zO, zT, acs, reduceCtorEq, aa, V, ad, ag, af, ae, Mly.av, ah, ax, aB]; (repeat refine an ?_); (try refine .inl ?_); apply k0; clear k0; simp only [zP, V])
  refine aZ rfl fun _ k0 => ?_
  refine aI (h := aA (zq m hk)) rfl rfl (by first | exact rfl | (simp only [ev, zP, aa, V]; exact rfl)) (by simp only [zV, acs, reduceCtorEq, aa, V, ad, ag, af, ae, Mly.av, ah, ax, aB]) ?_
  apply k0; clear k0; simp only [zP, V]
  (refine aZ rfl fun _ k0 => ?_; simp only [zO, zT, acs, reduceCtorEq, aa, V, ad, ag, af, ae, Mly.av, ah, ax, aB]; (repeat refine an ?_); (try refine .inl ?_); apply k0; clear k0; simp only [zP, V])
  (refine aj rfl fun _ k0 => ?_; simp only [zO, zT, acs, reduceCtorEq, aa, V, ad, ag, af, ae, Mly.av, ah, ax, aB]; (repeat refine an ?_); (try refine .inl ?_); apply k0; clear k0; simp only [zP, V])
  refine ao ?_
  refine ⟨by simp only [zP, aa, V]; exact rfl, rfl, ?_, rfl⟩; (repeat refine aP rfl ?_); exact bn (by exact rfl) hq10
 case b10 => exact cp
 simp only [b7, aV]
 (refine aj rfl fun _ k0 => ?_; simp only [zO, zT, acs, reduceCtorEq, aa, V, ad, ag, af, ae, Mly.av, ah, ax, aB]; (repeat refine an ?_); (try refine .inl ?_); apply k0; clear k0; simp only [zP, V])
 refine' aO (want := false) 4 rfl (m := 47) (by simp only [zP, aa, V]; exact rfl) (by kernel_rfl) rfl rfl rfl rfl rfl (fun hg11 => ?a11) ?b11 ?c11
 case a11 =>
  have hq11 := hg11; (try simp only [zB, reduceCtorEq] at hg11); simp only [zE]
  iterate 2 (refine aZ rfl fun _ k0 => ?_; simp only [zO, zT, acs, reduceCtorEq, aa, V, ad, ag, af, ae, Mly.av, ah, ax, aB]; (repeat refine an ?_); (try refine .inl ?_); apply k0; clear k0; simp only [zP, V])
  refine aZ rfl fun _ k0 => ?_
  refine aI (h := aA (tq (cG m) (by omega))) rfl rfl (by first | exact rfl | (simp only [ev, zP, aa, V]; exact rfl)) (by simp only [zV, acs, reduceCtorEq, aa, V, ad, ag, af, ae, Mly.av, ah, ax, aB]) ?_
  apply k0; clear k0; simp only [zP, V]
  (refine aZ rfl fun _ k0 => ?_; simp only [zO, zT, acs, reduceCtorEq, aa, V, ad, ag, af, ae, Mly.av, ah, ax, aB]; (repeat refine an ?_); (try refine .inl ?_); apply k0; clear k0; simp only [zP, V])
  (refine aj rfl fun _ k0 => ?_; simp only [zO, zT, acs, reduceCtorEq, aa, V, ad, ag, af, ae, Mly.av, ah, ax, aB]; (repeat refine an ?_); (try refine .inl ?_); apply k0; clear k0; simp only [zP, V])
  refine ao ?_
  refine ⟨by simp only [zP, aa, V]; exact rfl, rfl, ?_, rfl⟩; (repeat refine aP rfl ?_); exact bn (by exact rfl) hq11
 case b11 => exact cp
 simp only [b7, aV]
 refine ao ?_
 apply k9; clear k9; refine kp [0, 1, 2, 3, 4, 5, 31, 52] ?_
 refine cd (fun hc12 => ?_) (fun hc12 => ?_)
 ·exfalso; (try simp only [zB, reduceCtorEq] at hc12)
  all_goals (simp at hc12)
 (try simp only [zB, reduceCtorEq] at hc12)
 refine ay ?_
 apply k8; clear k8; refine kp [0, 1, 2, 3, 4, 5, 31, 52] ?_
 refine ai fun _ k13 => ?_
 refine ai fun _ k14 => ?_
 refine am hP hN rfl ?_
 iterate 4 (refine aj rfl fun _ k0 => ?_; simp only [zO, zT, acs, reduceCtorEq, aa, V, ad, ag, af, ae, Mly.av, ah, ax, aB]; (repeat refine an ?_); (try refine .inl ?_); apply k0; clear k0; simp only [zP, V])
 refine ao ?_
 apply k14; clear k14; refine kp [0, 1, 2, 3, 4, 5, 31, 52, 55, 56] ?_
 refine aC ?_
 refine bf (fun n15 s15 => ∃ (s : Nat), (s ≤ m.nx.length) ∧ n15 = m.nx.length - s ∧ s15 = { env := [(1, .one (.ptr 0 0 0 0)), (2, .one (.bool false)), (3, .one (.ptr 1 0 0 0)), (55, .one (.int .i64 (m.nx.length : Int))), (56, .one (.int .i64 (s : Int)))], L := [.vars 24 [.int .i64 m.inp, .int .i64 m.st, .list (.list (.int .i64)) m.nx, .list (.list (.int .i64)) m.ot], .vars 29 [.list ndT (cG m)]] }) ?_ ?_
 ·exact ⟨_, _, az [1, 2, 3, 55, 56], 0, Nat.zero_le _, rfl, rfl⟩
 rintro n15 s15 ⟨s, hs, rfl, rfl⟩
 refine ai fun _ k16 => ?_
 refine am hP hN rfl ?_
 (refine aj rfl fun _ k0 => ?_; simp only [zO, zT, acs, reduceCtorEq, aa, V, ad, ag, af, ae, Mly.av, ah, ax, aB]; (repeat refine an ?_); (try refine .inl ?_); apply k0; clear k0; simp only [zP, V])
 refine ao ?_
 apply k16; clear k16; refine kp [1, 2, 3, 55, 56, 57] ?_
 refine ai fun _ k17 => ?_
 refine cd (fun hc18 => ?_) (fun hc18 => ?_)
 ·(try simp only [zB, reduceCtorEq] at hc18)
  refine ay ?_
  apply k17; clear k17; refine kp [1, 2, 3, 55, 56, 57] ?_
  refine ai fun _ k19 => ?_
  refine aC ?_
  refine ai fun _ k20 => ?_
  refine am hP hN rfl ?_
  iterate 2 (refine aj rfl fun _ k0 => ?_; simp only [zO, zT, acs, reduceCtorEq, aa, V, ad, ag, af, ae, Mly.av, ah, ax, aB]; (repeat refine an ?_); (try refine .inl ?_); apply k0; clear k0; simp only [zP, V])
  refine ao ?_
  apply k20; clear k20; refine kp [1, 2, 3, 6, 55, 56, 57] ?_
  refine ai fun _ k21 => ?_
  have hsl : s < m.nx.length := by omega
  obtain ⟨s1, s2, s3, s4, s5, s6, s7⟩ := uv hk (s := (s : Int)) (by omega) (by omega)
  refine am hP hN rfl ?_
  iterate 3 (refine aj rfl fun _ k0 => ?_; simp only [zO, zT, acs, reduceCtorEq, aa, V, ad, ag, af, ae, Mly.av, ah, ax, aB]; (repeat refine an ?_); (try refine .inl ?_); apply k0; clear k0; simp only [zP, V])
  refine aj rfl fun _ k0 => ?_
  refine aI (h := aA (qM m hk (s : Int) (by omega) (by omega))) rfl rfl (by first | exact rfl | (simp only [ev, zP, aa, V]; exact rfl)) (by simp only [zV, acs, reduceCtorEq, aa, V, ad, ag, af, ae, Mly.av, ah, ax, aB]) ?_
  apply k0; clear k0; simp only [zP, V]
  iterate 7 (refine aj rfl fun _ k0 => ?_; simp only [zO, zT, acs, reduceCtorEq, aa, V, ad, ag, af, ae, Mly.av, ah, ax, aB]; (repeat refine an ?_); (try refine .inl ?_); apply k0; clear k0; simp only [zP, V])
  refine ao ?_
  apply k21; clear k21; refine kp [1, 2, 3, 6, 7, 8, 9, 55, 56, 57] ?_
  refine ai fun _ k22 => ?_
  refine ai fun _ k23 => ?_
  refine am hP hN rfl ?_
  iterate 3 (refine aj rfl fun _ k0 => ?_; simp only [zO, zT, acs, reduceCtorEq, aa, V, ad, ag, af, ae, Mly.av, ah, ax, aB]; (repeat refine an ?_); (try refine .inl ?_); apply k0; clear k0; simp only [zP, V])
  refine' aO (want := false) 2 rfl (m := 69) (by simp only [zP, aa, V]; exact rfl) (by kernel_rfl) rfl rfl rfl rfl rfl (fun hg24 => ?a24) ?b24 ?c24
  case a24 =>
   have hq24 := hg24; (try simp only [zB, reduceCtorEq] at hg24); simp only [zE]
   iterate 2 (refine aZ rfl fun _ k0 => ?_; simp only [zO, zT, acs, reduceCtorEq, aa, V, ad, ag, af, ae, Mly.av, ah, ax, aB]; (repeat refine an ?_); (try refine .inl ?_); apply k0; clear k0; simp only [zP, V])
   (refine aj rfl fun _ k0 => ?_; simp only [zO, zT, acs, reduceCtorEq, aa, V, ad, ag, af, ae, Mly.av, ah, ax, aB]; (repeat refine an ?_); (try refine .inl ?_); apply k0; clear k0; simp only [zP, V])
   refine ao ?_
   refine ⟨by simp only [zP, aa, V]; exact rfl, rfl, ?_, rfl⟩; (repeat refine aP rfl ?_); exact bn (by exact rfl) hq24
  case b24 => exact cp
  simp only [b7, aV]
  (refine aj rfl fun _ k0 => ?_; simp only [zO, zT, acs, reduceCtorEq, aa, V, ad, ag, af, ae, Mly.av, ah, ax, aB]; (repeat refine an ?_); (try refine .inl ?_); apply k0; clear k0; simp only [zP, V])
  refine' aO (want := false) 5 rfl (m := 73) (by simp only [zP, aa, V]; exact rfl) (by kernel_rfl) rfl rfl rfl rfl rfl (fun hg25 => ?a25) ?b25 ?c25
  case a25 =>
   have hq25 := hg25; (try simp only [zB, reduceCtorEq] at hg25); simp only [zE]
   iterate 5 (refine aZ rfl fun _ k0 => ?_; simp only [zO, zT, acs, reduceCtorEq, aa, V, ad, ag, af, ae, Mly.av, ah, ax, aB]; (repeat refine an ?_); (try refine .inl ?_); apply k0; clear k0; simp only [zP, V])
   (refine aj rfl fun _ k0 => ?_; simp only [zO, zT, acs, reduceCtorEq, aa, V, ad, ag, af, ae, Mly.av, ah, ax, aB]; (repeat refine an ?_); (try refine .inl ?_); apply k0; clear k0; simp only [zP, V])
   refine ao ?_
   refine ⟨by simp only [zP, aa, V]; exact rfl, rfl, ?_, rfl⟩; (repeat refine aP rfl ?_); exact bn (by exact rfl) hq25
  case b25 => exact cp
  simp only [b7, aV]
  (refine aj rfl fun _ k0 => ?_; simp only [zO, zT, acs, reduceCtorEq, aa, V, ad, ag, af, ae, Mly.av, ah, ax, aB]; (repeat refine an ?_); (try refine .inl ?_); apply k0; clear k0; simp only [zP, V])
  refine' aO (want := false) 7 rfl (m := 80) (by simp only [zP, aa, V]; exact rfl) (by kernel_rfl) rfl rfl rfl rfl rfl (fun hg26 => ?a26) ?b26 ?c26
  case a26 =>
   have hq26 := hg26; (try simp only [zB, reduceCtorEq] at hg26); simp only [zE]
   iterate 7 (refine aZ rfl fun _ k0 => ?_; simp only [zO, zT, acs, reduceCtorEq, aa, V, ad, ag, af, ae, Mly.av, ah, ax, aB]; (repeat refine an ?_); (try refine .inl ?_); apply k0; clear k0; simp only [zP, V])
   (refine aj rfl fun _ k0 => ?_; simp only [zO, zT, acs, reduceCtorEq, aa, V, ad, ag, af, ae, Mly.av, ah, ax, aB]; (repeat refine an ?_); (try refine .inl ?_); apply k0; clear k0; simp only [zP, V])
   refine ao ?_
   refine ⟨by simp only [zP, aa, V]; exact rfl, rfl, ?_, rfl⟩; (repeat refine aP rfl ?_); exact bn (by exact rfl) hq26
  case b26 => exact cp
  simp only [b7, aV]
  (refine aj rfl fun _ k0 => ?_; simp only [zO, zT, acs, reduceCtorEq, aa, V, ad, ag, af, ae, Mly.av, ah, ax, aB]; (repeat refine an ?_); (try refine .inl ?_); apply k0; clear k0; simp only [zP, V])
  refine' aO (want := false) 5 rfl (m := 89) (by simp only [zP, aa, V]; exact rfl) (by kernel_rfl) rfl rfl rfl rfl rfl (fun hg27 => ?a27) ?b27 ?c27
  case a27 =>
   have hq27 := hg27; (try simp only [zB, reduceCtorEq] at hg27); simp only [zE]
   iterate 3 (refine aZ rfl fun _ k0 => ?_; simp only [zO, zT, acs, reduceCtorEq, aa, V, ad, ag, af, ae, Mly.av, ah, ax, aB]; (repeat refine an ?_); (try refine .inl ?_); apply k0; clear k0; simp only [zP, V])
   refine aZ rfl fun _ k0 => ?_
   refine aI (h := aA (xa (cG m) (by omega) (pS hk))) rfl rfl (by first | exact rfl | (simp only [ev, zP, aa, V]; exact rfl)) (by simp only [zV, acs, reduceCtorEq, aa, V, ad, ag, af, ae, Mly.av, ah, ax, aB]) ?_
   apply k0; clear k0; simp only [zP, V]
   (refine aZ rfl fun _ k0 => ?_; simp only [zO, zT, acs, reduceCtorEq, aa, V, ad, ag, af, ae, Mly.av, ah, ax, aB]; (repeat refine an ?_); (try refine .inl ?_); apply k0; clear k0; simp only [zP, V])
   (refine aj rfl fun _ k0 => ?_; simp only [zO, zT, acs, reduceCtorEq, aa, V, ad, ag, af, ae, Mly.av, ah, ax, aB]; (repeat refine an ?_); (try refine .inl ?_); apply k0; clear k0; simp only [zP, V])
   refine ao ?_
   refine ⟨by simp only [zP, aa, V]; exact rfl, rfl, ?_, rfl⟩; (repeat refine aP rfl ?_); exact bn (by exact rfl) hq27
  case b27 => exact cp
  simp only [b7, aV]
  refine ao ?_
  apply k23; clear k23; refine kp [1, 2, 3, 6, 7, 8, 9, 55, 56, 57, 95] ?_
  refine cd (fun hc28 => ?_) (fun hc28 => ?_)
  ·exfalso; (try simp only [zB, reduceCtorEq] at hc28)
   rcases hc28 with (((h9 | h9) | h9) | h9) | h9 <;> first | exact absurd rfl h9 | omega | exact absurd s2 h9
  (try simp only [zB, reduceCtorEq] at hc28)
  refine ay ?_
  apply k22; clear k22; refine kp [1, 2, 3, 6, 7, 8, 9, 55, 56, 57, 95] ?_
  refine ai fun _ k29 => ?_
  refine am hP hN rfl ?_
  (refine aj rfl fun _ k0 => ?_; simp only [zO, zT, acs, reduceCtorEq, aa, V, ad, ag, af, ae, Mly.av, ah, ax, aB]; (repeat refine an ?_); (try refine .inl ?_); apply k0; clear k0; simp only [zP, V])
  refine ao ?_
  apply k29; clear k29; refine kp [1, 2, 3, 6, 7, 8, 9, 10, 55, 56, 57, 95] ?_
  refine ai fun _ k30 => ?_
  refine ai fun _ k31 => ?_
  refine am hP hN rfl ?_
  iterate 8 (refine aj rfl fun _ k0 => ?_; simp only [zO, zT, acs, reduceCtorEq, aa, V, ad, ag, af, ae, Mly.av, ah, ax, aB]; (repeat refine an ?_); (try refine .inl ?_); apply k0; clear k0; simp only [zP, V])
  refine ao ?_
  apply k31; clear k31; refine kp [1, 2, 3, 6, 7, 8, 9, 10, 55, 56, 57, 95, 101, 102, 103] ?_
  refine aC ?_
  refine bf (fun n32 s32 => ∃ (k : Nat) (o : Bool), (k ≤ ((cG m).getD (fU m (s : Int)) nd0).1.length) ∧ (o = ((((cG m).getD (fU m (s : Int)) nd0).1.take k).any fun x => decide (x = (s : Int)))) ∧ n32 = ((cG m).getD (fU m (s : Int)) nd0).1.length - k ∧ s32 = { env := [(1, .one (.ptr 0 0 0 0)), (2, .one (.bool false)), (3, .one (.ptr 1 0 0 0)), (6, .one (.int .i64 (s : Int))), (7, .one (.list (.int .i64) (dk m (s : Int)))), (8, .one (.int .i64 ((fU m (s : Int)) : Int))), (10, .one (.bool o)), (55, .one (.int .i64 (m.nx.length : Int))), (56, .one (.int .i64 (s : Int))), (101, .one (.list (.int .i64) ((cG m).getD (fU m (s : Int)) nd0).1)), (102, .one (.int .i64 (((cG m).getD (fU m (s : Int)) nd0).1.length : Int))), (103, .one (.int .i64 (k : Int)))], L := [.vars 24 [.int .i64 m.inp, .int .i64 m.st, .list (.list (.int .i64)) m.nx, .list (.list (.int .i64)) m.ot], .vars 29 [.list ndT (cG m)]] }) ?_ ?_
  ·exact ⟨_, _, az [1, 2, 3, 6, 7, 8, 10, 55, 56, 101, 102, 103], 0, false, Nat.zero_le _, rfl, rfl, rfl⟩
  rintro n32 s32 ⟨k, o, hkk, ho, rfl, rfl⟩
  refine ai fun _ k33 => ?_
  refine am hP hN rfl ?_
  (refine aj rfl fun _ k0 => ?_; simp only [zO, zT, acs, reduceCtorEq, aa, V, ad, ag, af, ae, Mly.av, ah, ax, aB]; (repeat refine an ?_); (try refine .inl ?_); apply k0; clear k0; simp only [zP, V])
  refine ao ?_
  apply k33; clear k33; refine kp [1, 2, 3, 6, 7, 8, 10, 55, 56, 101, 102, 103, 104] ?_
  refine ai fun _ k34 => ?_
  refine cd (fun hc35 => ?_) (fun hc35 => ?_)
  ·(try simp only [zB, reduceCtorEq] at hc35)
   refine ay ?_
   apply k34; clear k34; refine kp [1, 2, 3, 6, 7, 8, 10, 55, 56, 101, 102, 103, 104] ?_
   refine ai fun _ k36 => ?_
   refine aC ?_
   refine ai fun _ k37 => ?_
   have hkl : k < ((cG m).getD (fU m (s : Int)) nd0).1.length := by omega
   refine am hP hN rfl ?_
   iterate 3 (refine aj rfl fun _ k0 => ?_; simp only [zO, zT, acs, reduceCtorEq, aa, V, ad, ag, af, ae, Mly.av, ah, ax, aB]; (repeat refine an ?_); (try refine .inl ?_); apply k0; clear k0; simp only [zP, V])
   refine ao ?_
   apply k37; clear k37; refine kp [1, 2, 3, 6, 7, 8, 10, 12, 55, 56, 101, 102, 103, 104] ?_
   refine am hP hN rfl ?_
   iterate 2 (refine aj rfl fun _ k0 => ?_; simp only [zO, zT, acs, reduceCtorEq, aa, V, ad, ag, af, ae, Mly.av, ah, ax, aB]; (repeat refine an ?_); (try refine .inl ?_); apply k0; clear k0; simp only [zP, V])
   refine' aO (want := false) 3 rfl (m := 108) (by simp only [zP, aa, V]; exact rfl) (by kernel_rfl) rfl rfl rfl rfl rfl (fun hg38 => ?a38) ?b38 ?c38
   case a38 =>
    have hq38 := hg38; (try simp only [zB, reduceCtorEq] at hg38); simp only [zE]
    iterate 3 (refine aZ rfl fun _ k0 => ?_; simp only [zO, zT, acs, reduceCtorEq, aa, V, ad, ag, af, ae, Mly.av, ah, ax, aB]; (repeat refine an ?_); (try refine .inl ?_); apply k0; clear k0; simp only [zP, V])
    (refine aj rfl fun _ k0 => ?_; simp only [zO, zT, acs, reduceCtorEq, aa, V, ad, ag, af, ae, Mly.av, ah, ax, aB]; (repeat refine an ?_); (try refine .inl ?_); apply k0; clear k0; simp only [zP, V])
    refine ao ?_
    refine ⟨by simp only [zP, aa, V]; exact rfl, rfl, ?_, rfl⟩; (repeat refine aP rfl ?_); exact bn (by exact rfl) hq38
   case b38 => exact cp
   simp only [b7, aV]
   (refine aj rfl fun _ k0 => ?_; simp only [zO, zT, acs, reduceCtorEq, aa, V, ad, ag, af, ae, Mly.av, ah, ax, aB]; (repeat refine an ?_); (try refine .inl ?_); apply k0; clear k0; simp only [zP, V])
   refine ao ?_
   apply k36; clear k36; refine kp [1, 2, 3, 6, 7, 8, 10, 12, 55, 56, 101, 102, 103, 104] ?_
   refine am hP hN rfl ?_
   iterate 2 (refine aj rfl fun _ k0 => ?_; simp only [zO, zT, acs, reduceCtorEq, aa, V, ad, ag, af, ae, Mly.av, ah, ax, aB]; (repeat refine an ?_); (try refine .inl ?_); apply k0; clear k0; simp only [zP, V])
   refine ao ?_
   refine ⟨_, _, ?_, az [1, 2, 3, 6, 7, 8, 10, 55, 56, 101, 102, 103], k + 1, _, by omega, ?_, rfl, rfl⟩
   · omega
   · rw [cR hkl, List.any_append, ← ho]; simp
  (try simp only [zB, reduceCtorEq] at hc35)
  refine b6 ?_
  apply k30; clear k30; refine kp [1, 2, 3, 6, 7, 8, 10, 55, 56, 101, 102, 103, 104] ?_
  refine ai fun _ k39 => ?_
  refine ai fun _ k40 => ?_
  refine am hP hN rfl ?_
  iterate 2 (refine aj rfl fun _ k0 => ?_; simp only [zO, zT, acs, reduceCtorEq, aa, V, ad, ag, af, ae, Mly.av, ah, ax, aB]; (repeat refine an ?_); (try refine .inl ?_); apply k0; clear k0; simp only [zP, V])
  refine ao ?_
  apply k40; clear k40; refine kp [1, 2, 3, 6, 7, 8, 10, 55, 56, 101, 102, 103, 104, 115] ?_
  refine cd (fun hc41 => ?_) (fun hc41 => ?_)
  ·exfalso; (try simp only [zB, reduceCtorEq] at hc41)
   rw [ho, List.take_of_length_le (by omega)] at hc41; have h8 : (((cG m).getD (fU m (s : Int)) nd0).1.any fun x => decide (x = (s : Int))) = true := List.any_eq_true.2 ⟨_, s3, decide_eq_true rfl⟩; rw [h8] at hc41; simp at hc41
  (try simp only [zB, reduceCtorEq] at hc41)
  refine ay ?_
  apply k39; clear k39; refine kp [1, 2, 3, 6, 7, 8, 10, 55, 56, 101, 102, 103, 104, 115] ?_
  refine ai fun _ k42 => ?_
  refine am hP hN rfl ?_
  iterate 2 (refine aj rfl fun _ k0 => ?_; simp only [zO, zT, acs, reduceCtorEq, aa, V, ad, ag, af, ae, Mly.av, ah, ax, aB]; (repeat refine an ?_); (try refine .inl ?_); apply k0; clear k0; simp only [zP, V])
  refine ao ?_
  apply k42; clear k42; refine kp [1, 2, 3, 6, 7, 8, 10, 55, 56, 101, 102, 103, 104, 115, 116, 117] ?_
  refine aC ?_
  refine bf (fun n43 s43 => ∃ (u : Nat), (u ≤ s) ∧ n43 = s - u ∧ s43 = { env := [(1, .one (.ptr 0 0 0 0)), (2, .one (.bool false)), (3, .one (.ptr 1 0 0 0)), (6, .one (.int .i64 (s : Int))), (7, .one (.list (.int .i64) (dk m (s : Int)))), (8, .one (.int .i64 ((fU m (s : Int)) : Int))), (55, .one (.int .i64 (m.nx.length : Int))), (56, .one (.int .i64 (s : Int))), (116, .one (.int .i64 (s : Int))), (117, .one (.int .i64 (u : Int)))], L := [.vars 24 [.int .i64 m.inp, .int .i64 m.st, .list (.list (.int .i64)) m.nx, .list (.list (.int .i64)) m.ot], .vars 29 [.list ndT (cG m)]] }) ?_ ?_
  ·exact ⟨_, _, az [1, 2, 3, 6, 7, 8, 55, 56, 116, 117], 0, Nat.zero_le _, rfl, rfl⟩
  rintro n43 s43 ⟨u, hu, rfl, rfl⟩
  refine ai fun _ k44 => ?_
  refine am hP hN rfl ?_
  (refine aj rfl fun _ k0 => ?_; simp only [zO, zT, acs, reduceCtorEq, aa, V, ad, ag, af, ae, Mly.av, ah, ax, aB]; (repeat refine an ?_); (try refine .inl ?_); apply k0; clear k0; simp only [zP, V])
  refine ao ?_
  apply k44; clear k44; refine kp [1, 2, 3, 6, 7, 8, 55, 56, 116, 117, 118] ?_
  refine ai fun _ k45 => ?_
  refine cd (fun hc46 => ?_) (fun hc46 => ?_)
  ·(try simp only [zB, reduceCtorEq] at hc46)
   refine ay ?_
   apply k45; clear k45; refine kp [1, 2, 3, 6, 7, 8, 55, 56, 116, 117, 118] ?_
   refine ai fun _ k47 => ?_
   refine aC ?_
   refine ai fun _ k48 => ?_
   have hul : u < s := by omega
   obtain ⟨u1, u2, u3, u4, u5, u6, u7⟩ := uv hk (s := (u : Int)) (by omega) (by omega)
   obtain ⟨ht1, ht2⟩ := uM hk (s := (s : Int)) (u := (u : Int)) (by omega) (by omega) (by omega) (by omega) (by omega)
   have ht3 := xf hk (s := (s : Int)) (u := (u : Int)) (by omega) (by omega) (by omega) (by omega) (by omega)
   have hcl := sk (dk m (s : Int)) (dk m (u : Int))
   refine am hP hN rfl ?_
   iterate 2 (refine aj rfl fun _ k0 => ?_; simp only [zO, zT, acs, reduceCtorEq, aa, V, ad, ag, af, ae, Mly.av, ah, ax, aB]; (repeat refine an ?_); (try refine .inl ?_); apply k0; clear k0; simp only [zP, V])
   refine ao ?_
   apply k48; clear k48; refine kp [1, 2, 3, 6, 7, 8, 13, 55, 56, 116, 117, 118] ?_
   refine ai fun _ k49 => ?_
   refine am hP hN rfl ?_
   iterate 3 (refine aj rfl fun _ k0 => ?_; simp only [zO, zT, acs, reduceCtorEq, aa, V, ad, ag, af, ae, Mly.av, ah, ax, aB]; (repeat refine an ?_); (try refine .inl ?_); apply k0; clear k0; simp only [zP, V])
   refine aj rfl fun _ k0 => ?_
   refine aI (h := aA (qM m hk (u : Int) (by omega) (by omega))) rfl rfl (by first | exact rfl | (simp only [ev, zP, aa, V]; exact rfl)) (by simp only [zV, acs, reduceCtorEq, aa, V, ad, ag, af, ae, Mly.av, ah, ax, aB]) ?_
   apply k0; clear k0; simp only [zP, V]
   iterate 7 (refine aj rfl fun _ k0 => ?_; simp only [zO, zT, acs, reduceCtorEq, aa, V, ad, ag, af, ae, Mly.av, ah, ax, aB]; (repeat refine an ?_); (try refine .inl ?_); apply k0; clear k0; simp only [zP, V])
   refine ao ?_
   apply k49; clear k49; refine kp [1, 2, 3, 6, 7, 8, 13, 14, 15, 16, 55, 56, 116, 117, 118] ?_
   refine ai fun _ k50 => ?_
   refine am hP hN rfl ?_
   iterate 2 (refine aj rfl fun _ k0 => ?_; simp only [zO, zT, acs, reduceCtorEq, aa, V, ad, ag, af, ae, Mly.av, ah, ax, aB]; (repeat refine an ?_); (try refine .inl ?_); apply k0; clear k0; simp only [zP, V])
   refine aj rfl fun _ k0 => ?_
   refine aI (h := aA (vH (dk m (s : Int)) (dk m (u : Int)) (by omega) (by omega))) rfl rfl (by first | exact rfl | (simp only [ev, zP, aa, V]; exact rfl)) (by simp only [zV, acs, reduceCtorEq, aa, V, ad, ag, af, ae, Mly.av, ah, ax, aB]) ?_
   apply k0; clear k0; simp only [zP, V]
   (refine aj rfl fun _ k0 => ?_; simp only [zO, zT, acs, reduceCtorEq, aa, V, ad, ag, af, ae, Mly.av, ah, ax, aB]; (repeat refine an ?_); (try refine .inl ?_); apply k0; clear k0; simp only [zP, V])
   refine ao ?_
   apply k50; clear k50; refine kp [1, 2, 3, 6, 7, 8, 13, 14, 15, 16, 17, 55, 56, 116, 117, 118] ?_
   refine ai fun _ k51 => ?_
   refine bo hP hN Try.mixed rfl ?_
   iterate 4 (refine aj rfl fun _ k0 => ?_; simp only [zO, zT, acs, reduceCtorEq, aa, V, ad, ag, af, ae, Mly.av, ah, ax, aB]; (repeat refine an ?_); (try refine .inl ?_); apply k0; clear k0; simp only [zP, V])
   (refine aj rfl fun _ k0 => ?_; simp only [zE, op1, ev, lkp, d4, bK, cZ, Nat.mul_one, bS, cD, acs, Ty.dflt, zG, bW, gJ, bnd, Ty.size, reduceCtorEq, aa, V, ad, ag, af, ae, Try.el41, Try.st24, Try.td24, Try.td3, Try.td41, Mly.av, ah, ax, aB]; (repeat refine an ?_); (try refine .inl ?_); apply k0; clear k0; simp only [zP, V])
   refine aj rfl fun _ k0 => ?_
   refine aI (h := aA (tP m hk (s : Int) ⟨by omega, by omega⟩ ((dk m (s : Int)).take (dN (dk m (s : Int)) (dk m (u : Int)))) (ua s5) (by rw [List.length_take]; omega))) rfl rfl (by first | exact rfl | (simp only [ev, zP, aa, V]; exact rfl)) (by simp only [zV, acs, reduceCtorEq, aa, V, ad, ag, af, ae, Mly.av, ah, ax, aB]) ?_
   apply k0; clear k0; simp only [zP, V]
   iterate 7 (refine aj rfl fun _ k0 => ?_; simp only [zO, zT, acs, reduceCtorEq, aa, V, ad, ag, af, ae, Mly.av, ah, ax, aB]; (repeat refine an ?_); (try refine .inl ?_); apply k0; clear k0; simp only [zP, V])
   refine ao ?_
   refine ⟨by kernel_rfl, ?_⟩
   apply k51; clear k51; refine kp [1, 2, 3, 6, 7, 8, 13, 14, 15, 16, 17, 18, 20, 55, 56, 116, 117, 118] ?_
   refine ai fun _ k52 => ?_
   refine bo hP hN Try.mixed rfl ?_
   iterate 4 (refine aj rfl fun _ k0 => ?_; simp only [zO, zT, acs, reduceCtorEq, aa, V, ad, ag, af, ae, Mly.av, ah, ax, aB]; (repeat refine an ?_); (try refine .inl ?_); apply k0; clear k0; simp only [zP, V])
   (refine aj rfl fun _ k0 => ?_; simp only [zE, op1, ev, lkp, d4, bK, cZ, Nat.mul_one, bS, cD, acs, Ty.dflt, zG, bW, gJ, bnd, Ty.size, reduceCtorEq, aa, V, ad, ag, af, ae, Try.el41, Try.st24, Try.td24, Try.td3, Try.td41, Mly.av, ah, ax, aB]; (repeat refine an ?_); (try refine .inl ?_); apply k0; clear k0; simp only [zP, V])
   refine aj rfl fun _ k0 => ?_
   refine aI (h := aA (tP m hk (u : Int) ⟨by omega, by omega⟩ ((dk m (u : Int)).take (dN (dk m (s : Int)) (dk m (u : Int)))) (ua u5) (by rw [List.length_take]; omega))) rfl rfl (by first | exact rfl | (simp only [ev, zP, aa, V]; exact rfl)) (by simp only [zV, acs, reduceCtorEq, aa, V, ad, ag, af, ae, Mly.av, ah, ax, aB]) ?_
   apply k0; clear k0; simp only [zP, V]
   iterate 7 (refine aj rfl fun _ k0 => ?_; simp only [zO, zT, acs, reduceCtorEq, aa, V, ad, ag, af, ae, Mly.av, ah, ax, aB]; (repeat refine an ?_); (try refine .inl ?_); apply k0; clear k0; simp only [zP, V])
   refine ao ?_
   refine ⟨by kernel_rfl, ?_⟩
   apply k52; clear k52; refine kp [1, 2, 3, 6, 7, 8, 13, 14, 15, 16, 17, 18, 20, 21, 23, 55, 56, 116, 117, 118] ?_
   refine ai fun _ k53 => ?_
   refine am hP hN rfl ?_
   iterate 3 (refine aj rfl fun _ k0 => ?_; simp only [zO, zT, acs, reduceCtorEq, aa, V, ad, ag, af, ae, Mly.av, ah, ax, aB]; (repeat refine an ?_); (try refine .inl ?_); apply k0; clear k0; simp only [zP, V])
   refine' aO (want := false) 2 rfl (m := 153) (by simp only [zP, aa, V]; exact rfl) (by kernel_rfl) rfl rfl rfl rfl rfl (fun hg54 => ?a54) ?b54 ?c54
   case a54 =>
    have hq54 := hg54; (try simp only [zB, reduceCtorEq] at hg54); simp only [zE]
    iterate 2 (refine aZ rfl fun _ k0 => ?_; simp only [zO, zT, acs, reduceCtorEq, aa, V, ad, ag, af, ae, Mly.av, ah, ax, aB]; (repeat refine an ?_); (try refine .inl ?_); apply k0; clear k0; simp only [zP, V])
    (refine aj rfl fun _ k0 => ?_; simp only [zO, zT, acs, reduceCtorEq, aa, V, ad, ag, af, ae, Mly.av, ah, ax, aB]; (repeat refine an ?_); (try refine .inl ?_); apply k0; clear k0; simp only [zP, V])
    refine ao ?_
    refine ⟨by simp only [zP, aa, V]; exact rfl, rfl, ?_, rfl⟩; (repeat refine aP rfl ?_); exact bn (by exact rfl) hq54
   case b54 => exact cp
   simp only [b7, aV]
   (refine aj rfl fun _ k0 => ?_; simp only [zO, zT, acs, reduceCtorEq, aa, V, ad, ag, af, ae, Mly.av, ah, ax, aB]; (repeat refine an ?_); (try refine .inl ?_); apply k0; clear k0; simp only [zP, V])
   refine' aO (want := false) 2 rfl (m := 157) (by simp only [zP, aa, V]; exact rfl) (by kernel_rfl) rfl rfl rfl rfl rfl (fun hg55 => ?a55) ?b55 ?c55
   case a55 =>
    have hq55 := hg55; (try simp only [zB, reduceCtorEq] at hg55); simp only [zE]
    iterate 2 (refine aZ rfl fun _ k0 => ?_; simp only [zO, zT, acs, reduceCtorEq, aa, V, ad, ag, af, ae, Mly.av, ah, ax, aB]; (repeat refine an ?_); (try refine .inl ?_); apply k0; clear k0; simp only [zP, V])
    (refine aj rfl fun _ k0 => ?_; simp only [zO, zT, acs, reduceCtorEq, aa, V, ad, ag, af, ae, Mly.av, ah, ax, aB]; (repeat refine an ?_); (try refine .inl ?_); apply k0; clear k0; simp only [zP, V])
    refine ao ?_
    refine ⟨by simp only [zP, aa, V]; exact rfl, rfl, ?_, rfl⟩; (repeat refine aP rfl ?_); exact bn (by exact rfl) hq55
   case b55 => exact cp
   simp only [b7, aV]
   (refine aj rfl fun _ k0 => ?_; simp only [zO, zT, acs, reduceCtorEq, aa, V, ad, ag, af, ae, Mly.av, ah, ax, aB]; (repeat refine an ?_); (try refine .inl ?_); apply k0; clear k0; simp only [zP, V])
   refine' aO (want := false) 7 rfl (m := 161) (by simp only [zP, aa, V]; exact rfl) (by kernel_rfl) rfl rfl rfl rfl rfl (fun hg56 => ?a56) ?b56 ?c56
   case a56 =>
    have hq56 := hg56; (try simp only [zB, reduceCtorEq] at hg56); simp only [zE]
    iterate 5 (refine aZ rfl fun _ k0 => ?_; simp only [zO, zT, acs, reduceCtorEq, aa, V, ad, ag, af, ae, Mly.av, ah, ax, aB]; (repeat refine an ?_); (try refine .inl ?_); apply k0; clear k0; simp only [zP, V])
    refine aZ rfl fun _ k0 => ?_
    refine aI (h := aA (wV (m.go (s : Int) ((dk m (s : Int)).take (dN (dk m (s : Int)) (dk m (u : Int))))).2 (m.go (u : Int) ((dk m (u : Int)).take (dN (dk m (s : Int)) (dk m (u : Int))))).2)) rfl rfl (by first | exact rfl | (simp only [ev, zP, aa, V]; exact rfl)) (by simp only [zV, acs, reduceCtorEq, aa, V, ad, ag, af, ae, Mly.av, ah, ax, aB]) ?_
    apply k0; clear k0; simp only [zP, V]
    (refine aZ rfl fun _ k0 => ?_; simp only [zO, zT, acs, reduceCtorEq, aa, V, ad, ag, af, ae, Mly.av, ah, ax, aB]; (repeat refine an ?_); (try refine .inl ?_); apply k0; clear k0; simp only [zP, V])
    (refine aj rfl fun _ k0 => ?_; simp only [zO, zT, acs, reduceCtorEq, aa, V, ad, ag, af, ae, Mly.av, ah, ax, aB]; (repeat refine an ?_); (try refine .inl ?_); apply k0; clear k0; simp only [zP, V])
    refine ao ?_
    refine ⟨by simp only [zP, aa, V]; exact rfl, rfl, ?_, rfl⟩; (repeat refine aP rfl ?_); exact bn (by exact rfl) hq56
   case b56 => exact cp
   simp only [b7, aV]
   refine ao ?_
   apply k53; clear k53; refine kp [1, 2, 3, 6, 7, 8, 13, 14, 15, 16, 17, 18, 20, 21, 23, 55, 56, 116, 117, 118, 169] ?_
   refine cd (fun hc57 => ?_) (fun hc57 => ?_)
   ·exfalso; (try simp only [zB, reduceCtorEq] at hc57)
    exact uC ht3 ht2 hc57
   (try simp only [zB, reduceCtorEq] at hc57)
   refine ay ?_
   apply k47; clear k47; refine kp [1, 2, 3, 6, 7, 8, 13, 14, 15, 16, 17, 18, 20, 21, 23, 55, 56, 116, 117, 118, 169] ?_
   refine am hP hN rfl ?_
   iterate 2 (refine aj rfl fun _ k0 => ?_; simp only [zO, zT, acs, reduceCtorEq, aa, V, ad, ag, af, ae, Mly.av, ah, ax, aB]; (repeat refine an ?_); (try refine .inl ?_); apply k0; clear k0; simp only [zP, V])
   refine ao ?_
   refine ⟨_, _, ?_, az [1, 2, 3, 6, 7, 8, 55, 56, 116, 117], u + 1, by omega, rfl, rfl⟩
   omega
  (try simp only [zB, reduceCtorEq] at hc46)
  refine b6 ?_
  apply k19; clear k19; refine kp [1, 2, 3, 6, 7, 8, 55, 56, 116, 117, 118] ?_
  refine am hP hN rfl ?_
  iterate 2 (refine aj rfl fun _ k0 => ?_; simp only [zO, zT, acs, reduceCtorEq, aa, V, ad, ag, af, ae, Mly.av, ah, ax, aB]; (repeat refine an ?_); (try refine .inl ?_); apply k0; clear k0; simp only [zP, V])
  refine ao ?_
  refine ⟨_, _, ?_, az [1, 2, 3, 55, 56], s + 1, by omega, rfl, rfl⟩
  omega
 (try simp only [zB, reduceCtorEq] at hc18)
 refine b6 ?_
 apply k13; clear k13; refine kp [1, 2, 3, 55, 56, 57] ?_
 refine ai fun _ k58 => ?_
 refine am hP hN rfl ?_
 refine aj rfl fun _ k0 => ?_
 refine aI (h := aA wK) rfl rfl (by first | exact rfl | (simp only [ev, zP, aa, V]; exact rfl)) (by simp only [zV, acs, reduceCtorEq, aa, V, ad, ag, af, ae, Mly.av, ah, ax, aB]) ?_
 apply k0; clear k0; simp only [zP, V]
 (refine aj rfl fun _ k0 => ?_; simp only [zO, zT, acs, reduceCtorEq, aa, V, ad, ag, af, ae, Mly.av, ah, ax, aB]; (repeat refine an ?_); (try refine .inl ?_); apply k0; clear k0; simp only [zP, V])
 refine ao ?_
 apply k58; clear k58; refine kp [1, 2, 3, 55, 56, 57] ?_
 refine aE ?_
 refine ⟨nr, _, rfl, ?_⟩; simp only [zF, zP, aa, V, Mly.av, ah, ax, aB]
 refine VLE.of_eq ?_
 rfl
end Go.Proofs.Ytoahhklogohehaa
