/- Contracts of functions of this seat, each out of a walk through its code, and plain facts on what they compute. Conditions: those that each theorem names. -/
import Derived.Test.YtoahhklogohehaaW02
set_option linter.unusedSimpArgs false
set_option linter.unusedVariables false
set_option maxRecDepth 100000
namespace Go.Proofs.Ytoahhklogohehaa
open Go Go.AV
open Nat renaming reduceEqDiff → aa, reduceAdd → V, reduceLeDiff → ad, reduceLT → ag, reduceMul → af, reduceSub → ae
open List renaming set_cons_zero → cD, set_cons_succ → cm, getD_cons_zero → ar, length_append → aq, map_cons → aH, cons_append → aM, map_nil → bh, length_cons → au, nil_append → b6, take_succ_cons → dz, length_nil → aG, length_map → aD, length_replicate → bj, take_length → aI, mem_cons_self → aQ, mem_cons_of_mem → aJ
open Int renaming toNat_natCast → ah
theorem y3 (m : Mly) (cl : List Int) (hm : MOK m) (hl : cl.length = m.nx.length) (hr : ∀ s, s < m.nx.length → 0 ≤ cl.getD s 0 ∧ cl.getD s 0 < m.nx.length) : bP Try.prog 108 [m.av, .one (.list (.int .i64) cl)] (.tup [.one (.list (.int .i64) (m.nextL cl)), .one (.int .i64 (m.nextN cl))]) := by
 have hn2 := hm.n2; have hi2 := hm.i2; have hi1 := hm.i1; have hol := hm.ol
 refine aS Try.func108 rfl (by kernel_rfl) (Nat.le_of_ble_eq_true rfl) rfl fun C hP hN hB => ?_
 replace hN : C.N = 73 := hN
 simp only [bf, V]
 refine ai fun _ k1 => ?_
 refine ak hP hN rfl ?_
 iterate 3 (refine aj rfl fun _ k0 => ?_; simp only [zO, zT, acs, reduceCtorEq, aa, V, ad, ag, af, ae, Mly.av, bu, bC, bp, bz, bv, List.length_set]; (repeat refine an ?_); (try refine .inl ?_); apply k0; clear k0; simp only [zP, V])
 refine am ?_
 apply k1; clear k1; refine kp [0, 1, 2, 4, 5] ?_
 refine ai fun _ k2 => ?_
 refine ak hP hN rfl ?_
 (refine aj rfl fun _ k0 => ?_; simp only [zE, op1, ev, lkp, cY, bK, j8, reduceCtorEq, aa, V, ad, ag, af, ae, Try.mk157, Mly.av, bu, bC, bp, bz, bv, List.length_set]; (repeat refine an ?_); (try refine .inl ?_); apply k0; clear k0; simp only [zP, V])
 (refine aj rfl fun _ k0 => ?_; simp only [zO, zT, acs, reduceCtorEq, aa, V, ad, ag, af, ae, Mly.av, bu, bC, bp, bz, bv, List.length_set]; (repeat refine an ?_); (try refine .inl ?_); apply k0; clear k0; simp only [zP, V])
 refine am ?_
 apply k2; clear k2; refine kp [0, 1, 2, 4, 5, 6] ?_
 refine ai fun _ k3 => ?_
 refine ak hP hN rfl ?_
 iterate 2 (refine aj rfl fun _ k0 => ?_; simp only [zO, zT, acs, reduceCtorEq, aa, V, ad, ag, af, ae, Mly.av, bu, bC, bp, bz, bv, List.length_set]; (repeat refine an ?_); (try refine .inl ?_); apply k0; clear k0; simp only [zP, V])
 (refine aj rfl fun _ k0 => ?_; simp only [zE, op1, ev, lkp, cY, bK, cj, eW, dW, cE, cW, eh, Nat.div_one, cH, d5, Ty.size, br, dite_true, cQ, Ty.dflt, reduceCtorEq, aa, V, ad, ag, af, ae, Try.el41, Try.td3, Try.td41, Mly.av, bu, bC, bp, bz, bv, List.length_set]; (repeat refine an ?_); (try refine .inl ?_); apply k0; clear k0; simp only [zP, V])
 (refine aj rfl fun _ k0 => ?_; simp only [zO, zT, acs, reduceCtorEq, aa, V, ad, ag, af, ae, Mly.av, bu, bC, bp, bz, bv, List.length_set]; (repeat refine an ?_); (try refine .inl ?_); apply k0; clear k0; simp only [zP, V])
 refine am ?_
 apply k3; clear k3; refine kp [0, 1, 2, 4, 5, 6, 7] ?_
 refine ai fun _ k4 => ?_
 refine ai fun _ k5 => ?_
 refine ak hP hN rfl ?_
 iterate 3 (refine aj rfl fun _ k0 => ?_; simp only [zO, zT, acs, reduceCtorEq, aa, V, ad, ag, af, ae, Mly.av, bu, bC, bp, bz, bv, List.length_set]; (repeat refine an ?_); (try refine .inl ?_); apply k0; clear k0; simp only [zP, V])
 refine am ?_
 apply k5; clear k5; refine kp [0, 1, 2, 4, 5, 6, 7, 18, 19] ?_
 refine aA ?_
 refine aY (fun n6 s6 => ∃ (k : Nat), (k ≤ m.nx.length) ∧ n6 = m.nx.length - k ∧ s6 = { env := [(1, .one (.list (.int .i64) cl)), (2, .one (.ptr 0 0 0 0)), (6, .one (.mpv 1)), (7, .one (.row 2 0)), (18, .one (.int .i64 (cl.length : Int))), (19, .one (.int .i64 (k : Int)))], L := [.vars 24 [.int .i64 m.inp, .int .i64 m.st, .list (.list (.int .i64)) m.nx, .list (.list (.int .i64)) m.ot], .mp 157 .int (np (cU (m.sig cl) k)), .row (.int .i64) 3 0 (jH (fun s => (pos (cU (m.sig cl) m.nx.length) (m.sig cl s) : Int)) 0 m.nx.length k)] }) ?_ ?_
 ·refine ⟨_, _, ax [1, 2, 6, 7, 18, 19], 0, Nat.zero_le _, rfl, ?_⟩
  rw [vi, hl]; rfl
 rintro n6 s6 ⟨k, hk, rfl, rfl⟩
 refine ai fun _ k7 => ?_
 refine ak hP hN rfl ?_
 (refine aj rfl fun _ k0 => ?_; simp only [zO, zT, acs, reduceCtorEq, aa, V, ad, ag, af, ae, Mly.av, bu, bC, bp, bz, bv, List.length_set]; (repeat refine an ?_); (try refine .inl ?_); apply k0; clear k0; simp only [zP, V])
 refine am ?_
 apply k7; clear k7; refine kp [1, 2, 6, 7, 18, 19, 20] ?_
 refine ai fun _ k8 => ?_
 refine cd (fun hc9 => ?_) (fun hc9 => ?_)
 ·(try simp only [zB, reduceCtorEq] at hc9)
  refine ay ?_
  apply k8; clear k8; refine kp [1, 2, 6, 7, 18, 19, 20] ?_
  refine ai fun _ k10 => ?_
  refine aA ?_
  refine ai fun _ k11 => ?_
  refine ak hP hN rfl ?_
  iterate 2 (refine aj rfl fun _ k0 => ?_; simp only [zO, zT, acs, reduceCtorEq, aa, V, ad, ag, af, ae, Mly.av, bu, bC, bp, bz, bv, List.length_set]; (repeat refine an ?_); (try refine .inl ?_); apply k0; clear k0; simp only [zP, V])
  refine am ?_
  apply k11; clear k11; refine kp [1, 2, 6, 7, 8, 18, 19, 20] ?_
  refine ai fun _ k12 => ?_
  refine ak hP hN rfl ?_
  (refine aj rfl fun _ k0 => ?_; simp only [zO, zT, acs, reduceCtorEq, aa, V, ad, ag, af, ae, Mly.av, bu, bC, bp, bz, bv, List.length_set]; (repeat refine an ?_); (try refine .inl ?_); apply k0; clear k0; simp only [zP, V])
  refine am ?_
  apply k12; clear k12; refine kp [1, 2, 6, 7, 8, 9, 18, 19, 20] ?_
  refine ai fun _ k13 => ?_
  refine ai fun _ k14 => ?_
  refine ak hP hN rfl ?_
  iterate 3 (refine aj rfl fun _ k0 => ?_; simp only [zO, zT, acs, reduceCtorEq, aa, V, ad, ag, af, ae, Mly.av, bu, bC, bp, bz, bv, List.length_set]; (repeat refine an ?_); (try refine .inl ?_); apply k0; clear k0; simp only [zP, V])
  refine am ?_
  apply k14; clear k14; refine kp [1, 2, 6, 7, 8, 9, 18, 19, 20, 23, 24] ?_
  refine aA ?_
  refine aY (fun n15 s15 => ∃ (a : Nat), ((a : Int) ≤ m.inp) ∧ n15 = m.inp.toNat - a ∧ s15 = { env := [(1, .one (.list (.int .i64) cl)), (2, .one (.ptr 0 0 0 0)), (6, .one (.mpv 1)), (7, .one (.row 2 0)), (8, .one (.int .i64 (k : Int))), (9, .one (.ptr 3 0 0 0)), (18, .one (.int .i64 (cl.length : Int))), (19, .one (.int .i64 (k : Int))), (23, .one (.int .i64 m.inp)), (24, .one (.int .i64 (a : Int)))], L := [.vars 24 [.int .i64 m.inp, .int .i64 m.st, .list (.list (.int .i64)) m.nx, .list (.list (.int .i64)) m.ot], .mp 157 .int (np (cU (m.sig cl) k)), .row (.int .i64) 3 0 (jH (fun s => (pos (cU (m.sig cl) m.nx.length) (m.sig cl s) : Int)) 0 m.nx.length k), .vars 159 (eN (m.sigP cl a k))] }) ?_ ?_
  ·refine ⟨_, _, ax [1, 2, 6, 7, 8, 9, 18, 19, 23, 24], 0, by omega, rfl, ?_⟩
   rw [← vC, ← uD]; rfl
  rintro n15 s15 ⟨a, ha, rfl, rfl⟩
  refine ai fun _ k16 => ?_
  refine ak hP hN rfl ?_
  (refine aj rfl fun _ k0 => ?_; simp only [zO, zT, acs, reduceCtorEq, aa, V, ad, ag, af, ae, Mly.av, bu, bC, bp, bz, bv, List.length_set]; (repeat refine an ?_); (try refine .inl ?_); apply k0; clear k0; simp only [zP, V])
  refine am ?_
  apply k16; clear k16; refine kp [1, 2, 6, 7, 8, 9, 18, 19, 23, 24, 25] ?_
  refine ai fun _ k17 => ?_
  refine cd (fun hc18 => ?_) (fun hc18 => ?_)
  ·(try simp only [zB, reduceCtorEq] at hc18)
   refine ay ?_
   apply k17; clear k17; refine kp [1, 2, 6, 7, 8, 9, 18, 19, 23, 24, 25] ?_
   refine ai fun _ k19 => ?_
   refine aA ?_
   refine ai fun _ k20 => ?_
   refine ak hP hN rfl ?_
   iterate 2 (refine aj rfl fun _ k0 => ?_; simp only [zO, zT, acs, reduceCtorEq, aa, V, ad, ag, af, ae, Mly.av, bu, bC, bp, bz, bv, List.length_set]; (repeat refine an ?_); (try refine .inl ?_); apply k0; clear k0; simp only [zP, V])
   refine am ?_
   apply k20; clear k20; refine kp [1, 2, 6, 7, 8, 9, 10, 18, 19, 23, 24, 25] ?_
   refine ai fun _ k21 => ?_
   have hrl := hm.rl k (by omega); have hql := hm.ql k (by omega); have hnr := hm.nr k a (by omega) (by omega); have hw1 : ∀ v, bI (eN (m.sigP cl a k)) a [AC.int .i64 v] = eN ((m.sigP cl a k).set a v) := fun v => kQ (by rw [bC]; omega) v; have h64 : ((64 : Int) + (a : Int)).toNat = 64 + a := by omega
   refine ak hP hN rfl ?_
   iterate 11 (refine aj rfl fun _ k0 => ?_; simp only [zE, op1, ev, lkp, cY, bK, bM, d7, Nat.mul_one, bS, cL, acs, Ty.dflt, zG, bZ, cA, Ty.size, ne_eq, not_false_eq_true, Int.natCast_one, Int.mul_one, dY, ci, br, reduceCtorEq, aa, V, ad, ag, af, ae, Try.ea159, Try.el22, Try.el41, Try.sa159, Try.st24, Try.td159, Try.td22, Try.td24, Try.td3, Try.td41, Mly.av, bu, bC, bp, bz, bv, List.length_set, hw1]; (repeat refine an ?_); (try refine .inl ?_); apply k0; clear k0; simp only [zP, V])
   refine am ?_
   apply k21; clear k21; refine kp [1, 2, 6, 7, 8, 9, 10, 18, 19, 23, 24, 25] ?_
   refine ak hP hN rfl ?_
   iterate 15 (refine aj rfl fun _ k0 => ?_; simp only [zE, op1, ev, lkp, cY, bK, jf, cT, fG, gX, eU, gD, bM, d7, Nat.mul_one, bS, cL, acs, Ty.dflt, zG, bZ, cA, Ty.size, ne_eq, not_false_eq_true, Int.natCast_one, Int.mul_one, dY, ci, br, reduceCtorEq, aa, V, ad, ag, af, ae, Try.ea159, Try.el22, Try.el41, Try.sa159, Try.st24, Try.td159, Try.td2, Try.td22, Try.td24, Try.td3, Try.td41, Mly.av, bu, bC, bp, bz, bv, List.length_set, hw1, h64]; (repeat refine an ?_); (try refine .inl ?_); apply k0; clear k0; simp only [zP, V])
   refine am ?_
   apply k19; clear k19; refine kp [1, 2, 6, 7, 8, 9, 10, 18, 19, 23, 24, 25] ?_
   refine ak hP hN rfl ?_
   iterate 2 (refine aj rfl fun _ k0 => ?_; simp only [zO, zT, acs, reduceCtorEq, aa, V, ad, ag, af, ae, Mly.av, bu, bC, bp, bz, bv, List.length_set]; (repeat refine an ?_); (try refine .inl ?_); apply k0; clear k0; simp only [zP, V])
   refine am ?_
   refine ⟨_, _, ?_, ax [1, 2, 6, 7, 8, 9, 18, 19, 23, 24], a + 1, by omega, rfl, ?_⟩
   · omega
   · rw [kQ (by simp [bC]; omega), xD m cl k (by omega)]; rfl
  (try simp only [zB, reduceCtorEq] at hc18)
  refine aV ?_
  apply k13; clear k13; refine kp [1, 2, 6, 7, 8, 9, 18, 19, 23, 24, 25] ?_
  refine ai fun _ k22 => ?_
  have hkey := xf hm hr (a := a) (s := k) (by omega) (by omega); have hsg : m.sigP cl a k = m.sig cl k := by unfold Mly.sig; rw [show m.inp.toNat = a by omega]
  rw [hsg] at hkey ⊢; have hdl := lT (m.sig cl) k; have hst : (m.sig cl k).take 128 = m.sig cl k := by rw [← hsg]; exact bz _ _ _ _
  have hsl : (m.sig cl k).length = 128 := by rw [← hsg]; exact bC _ _ _ _
  have hsf := xe (fun s => (pos (cU (m.sig cl) m.nx.length) (m.sig cl s) : Int)) 0 (n := m.nx.length) (k := k) (by omega)
  refine ak hP hN rfl ?_
  iterate 2 (refine aj rfl fun _ k0 => ?_; simp only [zO, zT, acs, reduceCtorEq, aa, V, ad, ag, af, ae, Mly.av, bu, bC, bp, bz, bv, List.length_set, hst, hsl]; (repeat refine an ?_); (try refine .inl ?_); apply k0; clear k0; simp only [zP, V])
  (refine aj rfl fun _ k0 => ?_; simp only [zE, op1, ev, lkp, cY, bK, d7, Nat.mul_one, bS, cL, acs, Ty.dflt, zG, bZ, ke, bD, VK.ac, gY, reduceCtorEq, aa, V, ad, ag, af, ae, Try.ea159, Try.mk157, Try.sa159, Try.td1, Try.td159, Try.td3, Try.td4, Mly.av, bu, bC, bp, bz, bv, List.length_set, hst, hsl]; (repeat refine an ?_); (try refine .inl ?_); apply k0; clear k0; simp only [zP, V])
  iterate 5 (refine aj rfl fun _ k0 => ?_; simp only [zO, zT, acs, reduceCtorEq, aa, V, ad, ag, af, ae, Mly.av, bu, bC, bp, bz, bv, List.length_set, hst, hsl]; (repeat refine an ?_); (try refine .inl ?_); apply k0; clear k0; simp only [zP, V])
  refine am ?_
  apply k22; clear k22; refine kp [1, 2, 6, 7, 8, 9, 11, 12, 18, 19, 23, 24, 25] ?_
  refine ai fun _ k23 => ?_
  refine ai fun _ k24 => ?_
  refine ak hP hN rfl ?_
  iterate 2 (refine aj rfl fun _ k0 => ?_; simp only [zO, zT, acs, reduceCtorEq, aa, V, ad, ag, af, ae, Mly.av, bu, bC, bp, bz, bv, List.length_set]; (repeat refine an ?_); (try refine .inl ?_); apply k0; clear k0; simp only [zP, V])
  refine am ?_
  apply k24; clear k24; refine kp [1, 2, 6, 7, 8, 9, 11, 12, 18, 19, 23, 24, 25, 59] ?_
  refine cd (fun hc25 => ?_) (fun hc25 => ?_)
  ·(try simp only [zB, reduceCtorEq] at hc25)
   refine ai fun _ k26 => ?_
   refine ak hP hN rfl ?_
   iterate 3 (refine aj rfl fun _ k0 => ?_; simp only [zO, zT, acs, reduceCtorEq, aa, V, ad, ag, af, ae, Mly.av, bu, bC, bp, bz, bv, List.length_set, qW]; (repeat refine an ?_); (try refine .inl ?_); apply k0; clear k0; simp only [zP, V])
   refine am ?_
   apply k26; clear k26; refine kp [1, 2, 6, 7, 8, 9, 11, 12, 18, 19, 23, 24, 25, 59] ?_
   refine ak hP hN rfl ?_
   iterate 3 (refine aj rfl fun _ k0 => ?_; simp only [zO, zT, acs, reduceCtorEq, aa, V, ad, ag, af, ae, Mly.av, bu, bC, bp, bz, bv, List.length_set, hst, hsl]; (repeat refine an ?_); (try refine .inl ?_); apply k0; clear k0; simp only [zP, V])
   (refine aj rfl fun _ k0 => ?_; simp only [zE, op1, ev, lkp, cY, bK, d7, Nat.mul_one, bS, cL, acs, Ty.dflt, zG, bZ, eu, bD, valOf, reduceCtorEq, aa, V, ad, ag, af, ae, Try.ea159, Try.mk157, Try.sa159, Try.td159, Try.td3, Mly.av, bu, bC, bp, bz, bv, List.length_set, hst, hsl]; (repeat refine an ?_); (try refine .inl ?_); apply k0; clear k0; simp only [zP, V])
   refine am ?_
   apply k23; clear k23; refine kp [1, 2, 6, 7, 8, 9, 11, 12, 18, 19, 23, 24, 25, 59] ?_
   refine ak hP hN rfl ?_
   iterate 5 (refine aj rfl fun _ k0 => ?_; simp only [zO, zT, acs, reduceCtorEq, aa, V, ad, ag, af, ae, Mly.av, bu, bC, bp, bz, bv, List.length_set, hsf]; (repeat refine an ?_); (try refine .inl ?_); apply k0; clear k0; simp only [zP, V])
   refine am ?_
   apply k10; clear k10; refine kp [1, 2, 6, 7, 8, 9, 11, 12, 18, 19, 23, 24, 25, 59] ?_
   refine dh [1, 2, 6, 7, 18, 19] ?_; simp only [cF, lkp, zE, reduceCtorEq, aa]
   refine jV 3 rfl ?_; refine cP (n := 3) (L1 := [_, _, _]) rfl rfl (by rw [hB]; decide) rfl rfl ?_
   refine ak hP hN rfl ?_
   iterate 2 (refine aj rfl fun _ k0 => ?_; simp only [zO, zT, acs, reduceCtorEq, aa, V, ad, ag, af, ae, Mly.av, bu, bC, bp, bz, bv, List.length_set]; (repeat refine an ?_); (try refine .inl ?_); apply k0; clear k0; simp only [zP, V])
   refine am ?_
   first
   | (have hin : m.sig cl k ∈ cU (m.sig cl) k := by
        false_or_by_contra; rename_i hh; rw [fF, if_neg hh] at *; simp_all
      refine ⟨_, _, ?_, ax [1, 2, 6, 7, 18, 19], k + 1, by omega, rfl, ?_⟩
      · omega
      · rw [dp, fZ hin, ← kx _ _ (by omega), mO (by omega) hin, fF, if_pos hin]; rfl)
   | (have hin : m.sig cl k ∉ cU (m.sig cl) k := by
        intro hh; rw [fF, if_pos hh] at *; simp_all
      refine ⟨_, _, ?_, ax [1, 2, 6, 7, 18, 19], k + 1, by omega, rfl, ?_⟩
      · omega
      · rw [dp, eY hin, ← kx _ _ (by omega), ku (by omega) hin, r9 hin]; rfl)
  (try simp only [zB, reduceCtorEq] at hc25)
  refine ay ?_
  apply k23; clear k23; refine kp [1, 2, 6, 7, 8, 9, 11, 12, 18, 19, 23, 24, 25, 59] ?_
  refine ak hP hN rfl ?_
  iterate 5 (refine aj rfl fun _ k0 => ?_; simp only [zO, zT, acs, reduceCtorEq, aa, V, ad, ag, af, ae, Mly.av, bu, bC, bp, bz, bv, List.length_set, hsf]; (repeat refine an ?_); (try refine .inl ?_); apply k0; clear k0; simp only [zP, V])
  refine am ?_
  apply k10; clear k10; refine kp [1, 2, 6, 7, 8, 9, 11, 12, 18, 19, 23, 24, 25, 59] ?_
  refine dh [1, 2, 6, 7, 18, 19] ?_; simp only [cF, lkp, zE, reduceCtorEq, aa]
  refine jV 3 rfl ?_; refine cP (n := 3) (L1 := [_, _, _]) rfl rfl (by rw [hB]; decide) rfl rfl ?_
  refine ak hP hN rfl ?_
  iterate 2 (refine aj rfl fun _ k0 => ?_; simp only [zO, zT, acs, reduceCtorEq, aa, V, ad, ag, af, ae, Mly.av, bu, bC, bp, bz, bv, List.length_set]; (repeat refine an ?_); (try refine .inl ?_); apply k0; clear k0; simp only [zP, V])
  refine am ?_
  first
  | (have hin : m.sig cl k ∈ cU (m.sig cl) k := by
       false_or_by_contra; rename_i hh; rw [fF, if_neg hh] at *; simp_all
     refine ⟨_, _, ?_, ax [1, 2, 6, 7, 18, 19], k + 1, by omega, rfl, ?_⟩
     · omega
     · rw [dp, fZ hin, ← kx _ _ (by omega), mO (by omega) hin, fF, if_pos hin]; rfl)
  | (have hin : m.sig cl k ∉ cU (m.sig cl) k := by
       intro hh; rw [fF, if_pos hh] at *; simp_all
     refine ⟨_, _, ?_, ax [1, 2, 6, 7, 18, 19], k + 1, by omega, rfl, ?_⟩
     · omega
     · rw [dp, eY hin, ← kx _ _ (by omega), ku (by omega) hin, r9 hin]; rfl)
 (try simp only [zB, reduceCtorEq] at hc9)
 refine aV ?_
 apply k4; clear k4; refine kp [1, 2, 6, 7, 18, 19, 20] ?_
 refine ai fun _ k27 => ?_
 refine ak hP hN rfl ?_
 iterate 5 (refine aj rfl fun _ k0 => ?_; simp only [zO, zT, acs, reduceCtorEq, aa, V, ad, ag, af, ae, Mly.av, bu, bC, bp, bz, bv, List.length_set]; (repeat refine an ?_); (try refine .inl ?_); apply k0; clear k0; simp only [zP, V])
 refine am ?_
 apply k27; clear k27; refine kp [1, 2, 4, 5, 6, 7, 18, 19, 20] ?_
 refine aF ?_
 refine ⟨nr, _, rfl, ?_⟩; simp only [zF, zP, aa, V, Mly.av, bu, bC, bp, bz, bv, List.length_set]
 refine VLE.of_eq ?_
 have hkn : k = m.nx.length := by omega
 subst hkn
 rw [xM, qW]; rfl
theorem vz (m : Mly) (k : Int) (hm : MOK m) : bP Try.prog 102 [m.av, .one (.int .i64 k)] (.tup [.one (.list (.int .i64) (m.refC k)), .one (.int .i64 (m.refK k))]) := by
 have hn2 := hm.n2; have hn1 := hm.n1; have hNN : ((jq m k : Nat) : Int) = min (max k 0) (m.nx.length : Int) := by unfold jq; omega
 refine aS Try.func102 rfl (by kernel_rfl) (Nat.le_of_ble_eq_true rfl) rfl fun C hP hN hB => ?_
 replace hN : C.N = 45 := hN
 simp only [bf, V]
 refine ai fun _ k1 => ?_
 refine ak hP hN rfl ?_
 iterate 3 (refine aj rfl fun _ k0 => ?_; simp only [zO, zT, acs, reduceCtorEq, aa, V, ad, ag, af, ae, Mly.av]; (repeat refine an ?_); (try refine .inl ?_); apply k0; clear k0; simp only [zP, V])
 refine am ?_
 apply k1; clear k1; refine kp [0, 1, 2, 4, 5] ?_
 refine ai fun _ k2 => ?_
 refine ak hP hN rfl ?_
 iterate 3 (refine aj rfl fun _ k0 => ?_; simp only [zO, zT, acs, reduceCtorEq, aa, V, ad, ag, af, ae, Mly.av]; (repeat refine an ?_); (try refine .inl ?_); apply k0; clear k0; simp only [zP, V])
 (refine aj rfl fun _ k0 => ?_; simp only [zE, op1, ev, lkp, cY, bK, bM, d7, Nat.mul_one, bS, cL, acs, Ty.dflt, zG, bZ, cj, eW, dW, cE, cW, eh, Nat.div_one, cH, d5, Ty.size, br, dite_true, cQ, reduceCtorEq, aa, V, ad, ag, af, ae, Try.el22, Try.el41, Try.st24, Try.td2, Try.td22, Try.td24, Try.td3, Try.td41, Mly.av]; (repeat refine an ?_); (try refine .inl ?_); apply k0; clear k0; simp only [zP, V])
 iterate 2 (refine aj rfl fun _ k0 => ?_; simp only [zO, zT, acs, reduceCtorEq, aa, V, ad, ag, af, ae, Mly.av]; (repeat refine an ?_); (try refine .inl ?_); apply k0; clear k0; simp only [zP, V])
 refine am ?_
 apply k2; clear k2; refine kp [0, 1, 2, 4, 5, 6, 7] ?_
 refine ai fun _ k3 => ?_
 refine ai fun _ k4 => ?_
 refine cq 1 rfl ?_; simp only [aH, bh, zS, aa, and_self, and_true, true_and, and_false, false_and, if_true, if_false, eq_self, reduceCtorEq, Nat.one_ne_zero, Nat.zero_ne_one]
 refine ak hP hN rfl ?_
 iterate 7 (refine aj rfl fun _ k0 => ?_; simp only [zO, zT, acs, reduceCtorEq, aa, V, ad, ag, af, ae, Mly.av]; (repeat refine an ?_); (try refine .inl ?_); apply k0; clear k0; simp only [zP, V])
 refine am ?_
 apply k4; clear k4; refine kp [0, 1, 2, 4, 5, 6, 7, 20, 21] ?_
 refine aA ?_
 refine aY (fun n5 s5 => ∃ (j : Nat), (j ≤ jq m k) ∧ (∀ q, q < j → m.cnt (q + 1) ≠ m.cnt q) ∧ n5 = jq m k - j ∧ s5 = { env := [(1, .one (.int .i64 k)), (2, .one (.ptr 0 0 0 0)), (6, .one (.list (.int .i64) (m.cls j))), (7, .one (.int .i64 (m.cnt j))), (20, .one (.int .i64 (min (max k 0) (m.nx.length : Int)))), (21, .one (.int .i64 (j : Int)))], L := [.vars 24 [.int .i64 m.inp, .int .i64 m.st, .list (.list (.int .i64)) m.nx, .list (.list (.int .i64)) m.ot], .dead 0] }) ?_ ?_
 ·refine ⟨_, _, ax [1, 2, 6, 7, 20, 21], 0, Nat.zero_le _, fun q hq => by omega, rfl, rfl⟩
 rintro n5 s5 ⟨j, hj, hq, rfl, rfl⟩
 refine ai fun _ k6 => ?_
 refine ak hP hN rfl ?_
 (refine aj rfl fun _ k0 => ?_; simp only [zO, zT, acs, reduceCtorEq, aa, V, ad, ag, af, ae, Mly.av]; (repeat refine an ?_); (try refine .inl ?_); apply k0; clear k0; simp only [zP, V])
 refine am ?_
 apply k6; clear k6; refine kp [1, 2, 6, 7, 20, 21, 22] ?_
 refine ai fun _ k7 => ?_
 refine cd (fun hc8 => ?_) (fun hc8 => ?_)
 ·(try simp only [zB, reduceCtorEq] at hc8)
  refine ay ?_
  apply k7; clear k7; refine kp [1, 2, 6, 7, 20, 21, 22] ?_
  refine ai fun _ k9 => ?_
  refine aA ?_
  refine ai fun _ k10 => ?_
  refine ak hP hN rfl ?_
  iterate 2 (refine aj rfl fun _ k0 => ?_; simp only [zO, zT, acs, reduceCtorEq, aa, V, ad, ag, af, ae, Mly.av]; (repeat refine an ?_); (try refine .inl ?_); apply k0; clear k0; simp only [zP, V])
  refine am ?_
  apply k10; clear k10; refine kp [1, 2, 6, 7, 8, 20, 21, 22] ?_
  refine ai fun _ k11 => ?_
  refine ak hP hN rfl ?_
  iterate 2 (refine aj rfl fun _ k0 => ?_; simp only [zO, zT, acs, reduceCtorEq, aa, V, ad, ag, af, ae, Mly.av]; (repeat refine an ?_); (try refine .inl ?_); apply k0; clear k0; simp only [zP, V])
  refine aj rfl fun _ k0 => ?_
  refine aK (h := aE (y3 m (m.cls j) hm (jI m j) (pN hm j))) rfl rfl (by first | exact rfl | (simp only [ev, zP, aa, V]; exact rfl)) (by simp only [zV, acs, reduceCtorEq, aa, V, ad, ag, af, ae, Mly.av]) ?_
  apply k0; clear k0; simp only [zP, V]
  iterate 5 (refine aj rfl fun _ k0 => ?_; simp only [zO, zT, acs, reduceCtorEq, aa, V, ad, ag, af, ae, Mly.av]; (repeat refine an ?_); (try refine .inl ?_); apply k0; clear k0; simp only [zP, V])
  refine am ?_
  apply k11; clear k11; refine kp [1, 2, 6, 7, 8, 9, 10, 20, 21, 22] ?_
  refine ai fun _ k12 => ?_
  refine ai fun _ k13 => ?_
  refine ak hP hN rfl ?_
  iterate 3 (refine aj rfl fun _ k0 => ?_; simp only [zO, zT, acs, reduceCtorEq, aa, V, ad, ag, af, ae, Mly.av]; (repeat refine an ?_); (try refine .inl ?_); apply k0; clear k0; simp only [zP, V])
  refine am ?_
  apply k13; clear k13; refine kp [1, 2, 6, 7, 8, 9, 10, 20, 21, 22, 32] ?_
  refine cd (fun hc14 => ?_) (fun hc14 => ?_)
  ·(try simp only [zB, reduceCtorEq] at hc14)
   refine ai fun _ k15 => ?_
   refine ak hP hN rfl ?_
   iterate 4 (refine aj rfl fun _ k0 => ?_; simp only [zO, zT, acs, reduceCtorEq, aa, V, ad, ag, af, ae, Mly.av]; (repeat refine an ?_); (try refine .inl ?_); apply k0; clear k0; simp only [zP, V])
   refine am ?_
   apply k15; clear k15; refine kp [1, 2, 4, 5, 6, 7, 8, 9, 10, 20, 21, 22, 32] ?_
   refine aF ?_
   refine ⟨nr, _, rfl, ?_⟩; simp only [zF, zP, aa, V, Mly.av]
   refine VLE.of_eq ?_
   first
   | (have hce : m.cnt (j + 1) = m.cnt j := by assumption
      have e := qU (m := m) (N := jq m k) (j := j) (by omega) hce hq
      unfold Mly.refC Mly.refK; rw [e])
   | (have hjn : j = jq m k := by omega
      subst hjn
      have e := pa hq
      unfold Mly.refC Mly.refK; rw [e, hNN])
  (try simp only [zB, reduceCtorEq] at hc14)
  refine ay ?_
  apply k12; clear k12; refine kp [1, 2, 6, 7, 8, 9, 10, 20, 21, 22, 32] ?_
  refine ak hP hN rfl ?_
  iterate 4 (refine aj rfl fun _ k0 => ?_; simp only [zO, zT, acs, reduceCtorEq, aa, V, ad, ag, af, ae, Mly.av]; (repeat refine an ?_); (try refine .inl ?_); apply k0; clear k0; simp only [zP, V])
  refine am ?_
  apply k9; clear k9; refine kp [1, 2, 6, 7, 8, 9, 10, 20, 21, 22, 32] ?_
  refine ak hP hN rfl ?_
  iterate 2 (refine aj rfl fun _ k0 => ?_; simp only [zO, zT, acs, reduceCtorEq, aa, V, ad, ag, af, ae, Mly.av]; (repeat refine an ?_); (try refine .inl ?_); apply k0; clear k0; simp only [zP, V])
  refine am ?_
  have hne : m.cnt (j + 1) ≠ m.cnt j := by first | assumption | (intro hh; simp_all [Mly.cnt])
  refine ⟨_, _, ?_, ax [1, 2, 6, 7, 20, 21], j + 1, by omega, fun q hq2 => ?_, rfl, rfl⟩
  · omega
  · by_cases e : q = j
    · rw [e]; exact hne
    · exact hq q (by omega)
 (try simp only [zB, reduceCtorEq] at hc8)
 refine aV ?_
 apply k3; clear k3; refine kp [1, 2, 6, 7, 20, 21, 22] ?_
 refine ai fun _ k16 => ?_
 refine bn hP hN Try.mixed rfl ?_
 iterate 9 (refine aj rfl fun _ k0 => ?_; simp only [zO, zT, acs, reduceCtorEq, aa, V, ad, ag, af, ae, Mly.av]; (repeat refine an ?_); (try refine .inl ?_); apply k0; clear k0; simp only [zP, V])
 refine am ?_
 refine ⟨by kernel_rfl, ?_⟩
 apply k16; clear k16; refine kp [1, 2, 4, 5, 6, 7, 20, 21, 22] ?_
 refine aF ?_
 refine ⟨nr, _, rfl, ?_⟩; simp only [zF, zP, aa, V, Mly.av]
 refine VLE.of_eq ?_
 first
 | (have hce : m.cnt (j + 1) = m.cnt j := by assumption
    have e := qU (m := m) (N := jq m k) (j := j) (by omega) hce hq
    unfold Mly.refC Mly.refK; rw [e])
 | (have hjn : j = jq m k := by omega
    subst hjn
    have e := pa hq
    unfold Mly.refC Mly.refK; rw [e, hNN])
theorem jA (m : Mly) : bP Try.prog 48 [m.av] (.one (.int .i64 (aR m))) := by
 refine aS Try.func48 rfl (by kernel_rfl) (Nat.le_of_ble_eq_true rfl) rfl fun C hP hN hB => ?_
 replace hN : C.N = 104 := hN
 simp only [bf, V]
 refine ai fun _ k1 => ?_
 refine ak hP hN rfl ?_
 iterate 2 (refine aj rfl fun _ k0 => ?_; simp only [zO, zT, acs, reduceCtorEq, aa, V, ad, ag, af, ae, Mly.av]; (repeat refine an ?_); (try refine .inl ?_); apply k0; clear k0; simp only [zP, V])
 refine am ?_
 apply k1; clear k1; refine kp [0, 1, 2] ?_
 refine ai fun _ k2 => ?_
 refine ak hP hN rfl ?_
 iterate 4 (refine aj rfl fun _ k0 => ?_; simp only [zO, zT, acs, reduceCtorEq, aa, V, ad, ag, af, ae, Mly.av]; (repeat refine an ?_); (try refine .inl ?_); apply k0; clear k0; simp only [zP, V])
 refine am ?_
 apply k2; clear k2; refine kp [0, 1, 2, 3] ?_
 refine ai fun _ k3 => ?_
 refine aA ?_
 refine ai fun _ k4 => ?_
 refine ak hP hN rfl ?_
 iterate 4 (refine aj rfl fun _ k0 => ?_; simp only [zO, zT, acs, reduceCtorEq, aa, V, ad, ag, af, ae, Mly.av]; (repeat refine an ?_); (try refine .inl ?_); apply k0; clear k0; simp only [zP, V])
 refine' aO (want := false) 3 rfl (m := 15) (by simp only [zP, aa, V]; exact rfl) (by kernel_rfl) rfl rfl rfl rfl rfl (fun hg5 => ?a5) ?b5 ?c5
 case a5 =>
  have hq5 := hg5; (try simp only [zB, reduceCtorEq] at hg5); simp only [zE]
  iterate 3 (refine bg rfl fun _ k0 => ?_; simp only [zO, zT, acs, reduceCtorEq, aa, V, ad, ag, af, ae, Mly.av]; (repeat refine an ?_); (try refine .inl ?_); apply k0; clear k0; simp only [zP, V])
  (refine aj rfl fun _ k0 => ?_; simp only [zO, zT, acs, reduceCtorEq, aa, V, ad, ag, af, ae, Mly.av]; (repeat refine an ?_); (try refine .inl ?_); apply k0; clear k0; simp only [zP, V])
  refine am ?_
  refine ⟨by simp only [zP, aa, V]; exact rfl, rfl, ?_, rfl⟩; (repeat refine aP rfl ?_); exact bo (by exact rfl) hq5
 case b5 => exact cr
 simp only [bb, aT]
 (refine aj rfl fun _ k0 => ?_; simp only [zO, zT, acs, reduceCtorEq, aa, V, ad, ag, af, ae, Mly.av]; (repeat refine an ?_); (try refine .inl ?_); apply k0; clear k0; simp only [zP, V])
 refine am ?_
 apply k4; clear k4; refine kp [0, 1, 2, 3, 11] ?_
 refine cd (fun hc6 => ?_) (fun hc6 => ?_)
 ·(try simp only [zB, reduceCtorEq] at hc6)
  refine ai fun _ k7 => ?_
  refine ak hP hN rfl ?_
  (refine aj rfl fun _ k0 => ?_; simp only [zO, zT, acs, reduceCtorEq, aa, V, ad, ag, af, ae, Mly.av]; (repeat refine an ?_); (try refine .inl ?_); apply k0; clear k0; simp only [zP, V])
  refine am ?_
  apply k7; clear k7; refine kp [0, 1, 2, 3, 11] ?_
  refine aF ?_
  refine ⟨nr, _, rfl, ?_⟩; simp only [zF, zP, aa, V, Mly.av]
  refine VLE.of_eq ?_
  refine congrArg (fun n => AV.one (AC.int IntKind.i64 n)) ?_
  symm
  unfold aR
  first
  | (rw [if_pos (by omega)]; done)
  | (rw [if_neg (by omega), if_pos (by omega)]; done)
  | (rw [if_neg (by omega), if_neg (by omega), if_pos (by omega)]; done)
  | (rw [if_neg (by omega), if_neg (by omega), if_neg (by omega), if_pos (by omega)]; done)
  | (rw [if_neg (by omega), if_neg (by omega), if_neg (by omega), if_neg (by omega), if_pos (by omega)]; done)
  | (rw [if_neg (by omega), if_neg (by omega), if_neg (by omega), if_neg (by omega), if_neg (by omega)]
     first
     | exact (cf hrows (by omega) (by rw [cJ hc32.1 hc32.2 (j := j) (by omega) (by unfold bQ; omega)]; decide)).trans (cJ hc32.1 hc32.2 (by omega) (by unfold bQ; omega))
     | exact (cf hrows (by omega) (by rw [cI hc32]; decide)).trans (cI hc32)
     | exact cp fun i hi => hrows i (by omega))
 (try simp only [zB, reduceCtorEq] at hc6)
 refine ai fun _ k8 => ?_
 refine ak hP hN rfl ?_
 iterate 3 (refine aj rfl fun _ k0 => ?_; simp only [zO, zT, acs, reduceCtorEq, aa, V, ad, ag, af, ae, Mly.av]; (repeat refine an ?_); (try refine .inl ?_); apply k0; clear k0; simp only [zP, V])
 refine am ?_
 apply k8; clear k8; refine kp [0, 1, 2, 3, 11, 20] ?_
 refine cd (fun hc9 => ?_) (fun hc9 => ?_)
 ·(try simp only [zB, reduceCtorEq] at hc9)
  refine ai fun _ k10 => ?_
  refine ak hP hN rfl ?_
  (refine aj rfl fun _ k0 => ?_; simp only [zO, zT, acs, reduceCtorEq, aa, V, ad, ag, af, ae, Mly.av]; (repeat refine an ?_); (try refine .inl ?_); apply k0; clear k0; simp only [zP, V])
  refine am ?_
  apply k10; clear k10; refine kp [0, 1, 2, 3, 11, 20] ?_
  refine aF ?_
  refine ⟨nr, _, rfl, ?_⟩; simp only [zF, zP, aa, V, Mly.av]
  refine VLE.of_eq ?_
  refine congrArg (fun n => AV.one (AC.int IntKind.i64 n)) ?_
  symm
  unfold aR
  first
  | (rw [if_pos (by omega)]; done)
  | (rw [if_neg (by omega), if_pos (by omega)]; done)
  | (rw [if_neg (by omega), if_neg (by omega), if_pos (by omega)]; done)
  | (rw [if_neg (by omega), if_neg (by omega), if_neg (by omega), if_pos (by omega)]; done)
  | (rw [if_neg (by omega), if_neg (by omega), if_neg (by omega), if_neg (by omega), if_pos (by omega)]; done)
  | (rw [if_neg (by omega), if_neg (by omega), if_neg (by omega), if_neg (by omega), if_neg (by omega)]
     first
     | exact (cf hrows (by omega) (by rw [cJ hc32.1 hc32.2 (j := j) (by omega) (by unfold bQ; omega)]; decide)).trans (cJ hc32.1 hc32.2 (by omega) (by unfold bQ; omega))
     | exact (cf hrows (by omega) (by rw [cI hc32]; decide)).trans (cI hc32)
     | exact cp fun i hi => hrows i (by omega))
 (try simp only [zB, reduceCtorEq] at hc9)
 refine ai fun _ k11 => ?_
 refine ak hP hN rfl ?_
 iterate 3 (refine aj rfl fun _ k0 => ?_; simp only [zO, zT, acs, reduceCtorEq, aa, V, ad, ag, af, ae, Mly.av]; (repeat refine an ?_); (try refine .inl ?_); apply k0; clear k0; simp only [zP, V])
 refine am ?_
 apply k11; clear k11; refine kp [0, 1, 2, 3, 11, 20, 23] ?_
 refine cd (fun hc12 => ?_) (fun hc12 => ?_)
 ·(try simp only [zB, reduceCtorEq] at hc12)
  refine ai fun _ k13 => ?_
  refine ak hP hN rfl ?_
  (refine aj rfl fun _ k0 => ?_; simp only [zO, zT, acs, reduceCtorEq, aa, V, ad, ag, af, ae, Mly.av]; (repeat refine an ?_); (try refine .inl ?_); apply k0; clear k0; simp only [zP, V])
  refine am ?_
  apply k13; clear k13; refine kp [0, 1, 2, 3, 11, 20, 23] ?_
  refine aF ?_
  refine ⟨nr, _, rfl, ?_⟩; simp only [zF, zP, aa, V, Mly.av]
  refine VLE.of_eq ?_
  refine congrArg (fun n => AV.one (AC.int IntKind.i64 n)) ?_
  symm
  unfold aR
  first
  | (rw [if_pos (by omega)]; done)
  | (rw [if_neg (by omega), if_pos (by omega)]; done)
  | (rw [if_neg (by omega), if_neg (by omega), if_pos (by omega)]; done)
  | (rw [if_neg (by omega), if_neg (by omega), if_neg (by omega), if_pos (by omega)]; done)
  | (rw [if_neg (by omega), if_neg (by omega), if_neg (by omega), if_neg (by omega), if_pos (by omega)]; done)
  | (rw [if_neg (by omega), if_neg (by omega), if_neg (by omega), if_neg (by omega), if_neg (by omega)]
     first
     | exact (cf hrows (by omega) (by rw [cJ hc32.1 hc32.2 (j := j) (by omega) (by unfold bQ; omega)]; decide)).trans (cJ hc32.1 hc32.2 (by omega) (by unfold bQ; omega))
     | exact (cf hrows (by omega) (by rw [cI hc32]; decide)).trans (cI hc32)
     | exact cp fun i hi => hrows i (by omega))
 (try simp only [zB, reduceCtorEq] at hc12)
 refine ai fun _ k14 => ?_
 refine ak hP hN rfl ?_
 iterate 4 (refine aj rfl fun _ k0 => ?_; simp only [zO, zT, acs, reduceCtorEq, aa, V, ad, ag, af, ae, Mly.av]; (repeat refine an ?_); (try refine .inl ?_); apply k0; clear k0; simp only [zP, V])
 refine' aO (want := false) 4 rfl (m := 30) (by simp only [zP, aa, V]; exact rfl) (by kernel_rfl) rfl rfl rfl rfl rfl (fun hg15 => ?a15) ?b15 ?c15
 case a15 =>
  have hq15 := hg15; (try simp only [zB, reduceCtorEq] at hg15); simp only [zE]
  iterate 4 (refine bg rfl fun _ k0 => ?_; simp only [zO, zT, acs, reduceCtorEq, aa, V, ad, ag, af, ae, Mly.av]; (repeat refine an ?_); (try refine .inl ?_); apply k0; clear k0; simp only [zP, V])
  (refine aj rfl fun _ k0 => ?_; simp only [zO, zT, acs, reduceCtorEq, aa, V, ad, ag, af, ae, Mly.av]; (repeat refine an ?_); (try refine .inl ?_); apply k0; clear k0; simp only [zP, V])
  refine am ?_
  refine ⟨by simp only [zP, aa, V]; exact rfl, rfl, ?_, rfl⟩; (repeat refine aP rfl ?_); exact bo (by exact rfl) hq15
 case b15 => exact cr
 simp only [bb, aT]
 (refine aj rfl fun _ k0 => ?_; simp only [zO, zT, acs, reduceCtorEq, aa, V, ad, ag, af, ae, Mly.av]; (repeat refine an ?_); (try refine .inl ?_); apply k0; clear k0; simp only [zP, V])
 refine am ?_
 apply k14; clear k14; refine kp [0, 1, 2, 3, 11, 20, 23, 26] ?_
 refine cd (fun hc16 => ?_) (fun hc16 => ?_)
 ·(try simp only [zB, reduceCtorEq] at hc16)
  refine ai fun _ k17 => ?_
  refine ak hP hN rfl ?_
  (refine aj rfl fun _ k0 => ?_; simp only [zO, zT, acs, reduceCtorEq, aa, V, ad, ag, af, ae, Mly.av]; (repeat refine an ?_); (try refine .inl ?_); apply k0; clear k0; simp only [zP, V])
  refine am ?_
  apply k17; clear k17; refine kp [0, 1, 2, 3, 11, 20, 23, 26] ?_
  refine aF ?_
  refine ⟨nr, _, rfl, ?_⟩; simp only [zF, zP, aa, V, Mly.av]
  refine VLE.of_eq ?_
  refine congrArg (fun n => AV.one (AC.int IntKind.i64 n)) ?_
  symm
  unfold aR
  first
  | (rw [if_pos (by omega)]; done)
  | (rw [if_neg (by omega), if_pos (by omega)]; done)
  | (rw [if_neg (by omega), if_neg (by omega), if_pos (by omega)]; done)
  | (rw [if_neg (by omega), if_neg (by omega), if_neg (by omega), if_pos (by omega)]; done)
  | (rw [if_neg (by omega), if_neg (by omega), if_neg (by omega), if_neg (by omega), if_pos (by omega)]; done)
  | (rw [if_neg (by omega), if_neg (by omega), if_neg (by omega), if_neg (by omega), if_neg (by omega)]
     first
     | exact (cf hrows (by omega) (by rw [cJ hc32.1 hc32.2 (j := j) (by omega) (by unfold bQ; omega)]; decide)).trans (cJ hc32.1 hc32.2 (by omega) (by unfold bQ; omega))
     | exact (cf hrows (by omega) (by rw [cI hc32]; decide)).trans (cI hc32)
     | exact cp fun i hi => hrows i (by omega))
 (try simp only [zB, reduceCtorEq] at hc16)
 refine ai fun _ k18 => ?_
 refine ak hP hN rfl ?_
 iterate 6 (refine aj rfl fun _ k0 => ?_; simp only [zO, zT, acs, reduceCtorEq, aa, V, ad, ag, af, ae, Mly.av]; (repeat refine an ?_); (try refine .inl ?_); apply k0; clear k0; simp only [zP, V])
 refine am ?_
 apply k18; clear k18; refine kp [0, 1, 2, 3, 11, 20, 23, 26, 36] ?_
 refine cd (fun hc19 => ?_) (fun hc19 => ?_)
 ·(try simp only [zB, reduceCtorEq] at hc19)
  refine ai fun _ k20 => ?_
  refine ak hP hN rfl ?_
  (refine aj rfl fun _ k0 => ?_; simp only [zO, zT, acs, reduceCtorEq, aa, V, ad, ag, af, ae, Mly.av]; (repeat refine an ?_); (try refine .inl ?_); apply k0; clear k0; simp only [zP, V])
  refine am ?_
  apply k20; clear k20; refine kp [0, 1, 2, 3, 11, 20, 23, 26, 36] ?_
  refine aF ?_
  refine ⟨nr, _, rfl, ?_⟩; simp only [zF, zP, aa, V, Mly.av]
  refine VLE.of_eq ?_
  refine congrArg (fun n => AV.one (AC.int IntKind.i64 n)) ?_
  symm
  unfold aR
  first
  | (rw [if_pos (by omega)]; done)
  | (rw [if_neg (by omega), if_pos (by omega)]; done)
  | (rw [if_neg (by omega), if_neg (by omega), if_pos (by omega)]; done)
  | (rw [if_neg (by omega), if_neg (by omega), if_neg (by omega), if_pos (by omega)]; done)
  | (rw [if_neg (by omega), if_neg (by omega), if_neg (by omega), if_neg (by omega), if_pos (by omega)]; done)
  | (rw [if_neg (by omega), if_neg (by omega), if_neg (by omega), if_neg (by omega), if_neg (by omega)]
     first
     | exact (cf hrows (by omega) (by rw [cJ hc32.1 hc32.2 (j := j) (by omega) (by unfold bQ; omega)]; decide)).trans (cJ hc32.1 hc32.2 (by omega) (by unfold bQ; omega))
     | exact (cf hrows (by omega) (by rw [cI hc32]; decide)).trans (cI hc32)
     | exact cp fun i hi => hrows i (by omega))
 (try simp only [zB, reduceCtorEq] at hc19)
 refine ay ?_
 apply k3; clear k3; refine kp [0, 1, 2, 3, 11, 20, 23, 26, 36] ?_
 refine ai fun _ k21 => ?_
 refine ai fun _ k22 => ?_
 refine ak hP hN rfl ?_
 iterate 2 (refine aj rfl fun _ k0 => ?_; simp only [zO, zT, acs, reduceCtorEq, aa, V, ad, ag, af, ae, Mly.av]; (repeat refine an ?_); (try refine .inl ?_); apply k0; clear k0; simp only [zP, V])
 refine am ?_
 apply k22; clear k22; refine kp [0, 1, 2, 3, 11, 20, 23, 26, 36, 42, 43] ?_
 refine aA ?_
 refine aY (fun n23 s23 => ∃ (k : Nat), (k ≤ m.nx.length) ∧ (∀ i, i < k → iK m i = 0) ∧ n23 = m.nx.length - k ∧ s23 = { env := [(1, .one (.ptr 0 0 0 0)), (3, .one (.int .i64 (m.nx.length : Int))), (42, .one (.int .i64 (m.nx.length : Int))), (43, .one (.int .i64 (k : Int)))], L := [.vars 24 [.int .i64 m.inp, .int .i64 m.st, .list (.list (.int .i64)) m.nx, .list (.list (.int .i64)) m.ot]] }) ?_ ?_
 ·exact ⟨_, _, ax [1, 3, 42, 43], 0, Nat.zero_le _, fun i hi => by omega, rfl, rfl⟩
 rintro n23 s23 ⟨k, hk, hrows, rfl, rfl⟩
 refine ai fun _ k24 => ?_
 refine ak hP hN rfl ?_
 (refine aj rfl fun _ k0 => ?_; simp only [zO, zT, acs, reduceCtorEq, aa, V, ad, ag, af, ae, Mly.av]; (repeat refine an ?_); (try refine .inl ?_); apply k0; clear k0; simp only [zP, V])
 refine am ?_
 apply k24; clear k24; refine kp [1, 3, 42, 43, 44] ?_
 refine ai fun _ k25 => ?_
 refine cd (fun hc26 => ?_) (fun hc26 => ?_)
 ·(try simp only [zB, reduceCtorEq] at hc26)
  refine ay ?_
  apply k25; clear k25; refine kp [1, 3, 42, 43, 44] ?_
  refine ai fun _ k27 => ?_
  refine aA ?_
  refine ai fun _ k28 => ?_
  refine ak hP hN rfl ?_
  iterate 2 (refine aj rfl fun _ k0 => ?_; simp only [zO, zT, acs, reduceCtorEq, aa, V, ad, ag, af, ae, Mly.av]; (repeat refine an ?_); (try refine .inl ?_); apply k0; clear k0; simp only [zP, V])
  refine am ?_
  apply k28; clear k28; refine kp [1, 3, 4, 42, 43, 44] ?_
  refine ai fun _ k29 => ?_
  refine ai fun _ k30 => ?_
  refine bn hP hN Try.mixed rfl ?_
  iterate 10 (refine aj rfl fun _ k0 => ?_; simp only [zO, zT, acs, reduceCtorEq, aa, V, ad, ag, af, ae, Mly.av]; (repeat refine an ?_); (try refine .inl ?_); apply k0; clear k0; simp only [zP, V])
  refine' aO (want := false) 9 rfl (m := 55) (by simp only [zP, aa, V]; exact rfl) (by kernel_rfl) rfl rfl rfl rfl rfl (fun hg31 => ?a31) ?b31 ?c31
  case a31 =>
   have hq31 := hg31; (try simp only [zB, reduceCtorEq] at hg31); simp only [zE]
   iterate 9 (refine bg rfl fun _ k0 => ?_; simp only [zO, zT, acs, reduceCtorEq, aa, V, ad, ag, af, ae, Mly.av]; (repeat refine an ?_); (try refine .inl ?_); apply k0; clear k0; simp only [zP, V])
   (refine aj rfl fun _ k0 => ?_; simp only [zO, zT, acs, reduceCtorEq, aa, V, ad, ag, af, ae, Mly.av]; (repeat refine an ?_); (try refine .inl ?_); apply k0; clear k0; simp only [zP, V])
   refine am ?_
   refine ⟨by simp only [zP, aa, V]; exact rfl, rfl, ?_, rfl⟩; (repeat refine aP rfl ?_); exact bo (by exact rfl) hq31
  case b31 => exact cr
  simp only [bb, aT]
  refine am ?_
  refine ⟨by kernel_rfl, ?_⟩
  apply k30; clear k30; refine kp [1, 3, 4, 42, 43, 44, 65] ?_
  refine cd (fun hc32 => ?_) (fun hc32 => ?_)
  ·(try simp only [zB, reduceCtorEq] at hc32)
   refine ai fun _ k33 => ?_
   refine ak hP hN rfl ?_
   (refine aj rfl fun _ k0 => ?_; simp only [zO, zT, acs, reduceCtorEq, aa, V, ad, ag, af, ae, Mly.av]; (repeat refine an ?_); (try refine .inl ?_); apply k0; clear k0; simp only [zP, V])
   refine am ?_
   apply k33; clear k33; refine kp [1, 2, 3, 4, 42, 43, 44, 65] ?_
   refine aF ?_
   refine ⟨nr, _, rfl, ?_⟩; simp only [zF, zP, aa, V, Mly.av]
   refine VLE.of_eq ?_
   refine congrArg (fun n => AV.one (AC.int IntKind.i64 n)) ?_
   symm
   unfold aR
   first
   | (rw [if_pos (by omega)]; done)
   | (rw [if_neg (by omega), if_pos (by omega)]; done)
   | (rw [if_neg (by omega), if_neg (by omega), if_pos (by omega)]; done)
   | (rw [if_neg (by omega), if_neg (by omega), if_neg (by omega), if_pos (by omega)]; done)
   | (rw [if_neg (by omega), if_neg (by omega), if_neg (by omega), if_neg (by omega), if_pos (by omega)]; done)
   | (rw [if_neg (by omega), if_neg (by omega), if_neg (by omega), if_neg (by omega), if_neg (by omega)]
      first
      | exact (cf hrows (by omega) (by rw [cJ hc32.1 hc32.2 (j := j) (by omega) (by unfold bQ; omega)]; decide)).trans (cJ hc32.1 hc32.2 (by omega) (by unfold bQ; omega))
      | exact (cf hrows (by omega) (by rw [cI hc32]; decide)).trans (cI hc32)
      | exact cp fun i hi => hrows i (by omega))
  (try simp only [zB, reduceCtorEq] at hc32)
  refine ay ?_
  apply k29; clear k29; refine kp [1, 3, 4, 42, 43, 44, 65] ?_
  refine ai fun _ k34 => ?_
  refine ak hP hN rfl ?_
  iterate 3 (refine aj rfl fun _ k0 => ?_; simp only [zO, zT, acs, reduceCtorEq, aa, V, ad, ag, af, ae, Mly.av]; (repeat refine an ?_); (try refine .inl ?_); apply k0; clear k0; simp only [zP, V])
  refine am ?_
  apply k34; clear k34; refine kp [1, 3, 4, 42, 43, 44, 65, 67, 68] ?_
  refine aA ?_
  refine aY (fun n35 s35 => ∃ (j : Nat), ((j : Int) ≤ m.inp) ∧ (∀ a, a < j → ¬ bQ m k a) ∧ n35 = m.inp.toNat - j ∧ s35 = { env := [(1, .one (.ptr 0 0 0 0)), (3, .one (.int .i64 (m.nx.length : Int))), (4, .one (.int .i64 (k : Int))), (42, .one (.int .i64 (m.nx.length : Int))), (43, .one (.int .i64 (k : Int))), (67, .one (.int .i64 m.inp)), (68, .one (.int .i64 (j : Int)))], L := [.vars 24 [.int .i64 m.inp, .int .i64 m.st, .list (.list (.int .i64)) m.nx, .list (.list (.int .i64)) m.ot]] }) ?_ ?_
  ·refine ⟨_, _, ax [1, 3, 4, 42, 43, 67, 68], 0, ?_, fun i hi => by omega, rfl, rfl⟩; omega
  rintro n35 s35 ⟨j, hj, hcells, rfl, rfl⟩
  refine ai fun _ k36 => ?_
  refine ak hP hN rfl ?_
  (refine aj rfl fun _ k0 => ?_; simp only [zO, zT, acs, reduceCtorEq, aa, V, ad, ag, af, ae, Mly.av]; (repeat refine an ?_); (try refine .inl ?_); apply k0; clear k0; simp only [zP, V])
  refine am ?_
  apply k36; clear k36; refine kp [1, 3, 4, 42, 43, 67, 68, 69] ?_
  refine ai fun _ k37 => ?_
  refine cd (fun hc38 => ?_) (fun hc38 => ?_)
  ·(try simp only [zB, reduceCtorEq] at hc38)
   refine ay ?_
   apply k37; clear k37; refine kp [1, 3, 4, 42, 43, 67, 68, 69] ?_
   refine ai fun _ k39 => ?_
   refine aA ?_
   refine ai fun _ k40 => ?_
   refine ak hP hN rfl ?_
   iterate 2 (refine aj rfl fun _ k0 => ?_; simp only [zO, zT, acs, reduceCtorEq, aa, V, ad, ag, af, ae, Mly.av]; (repeat refine an ?_); (try refine .inl ?_); apply k0; clear k0; simp only [zP, V])
   refine am ?_
   apply k40; clear k40; refine kp [1, 3, 4, 5, 42, 43, 67, 68, 69] ?_
   refine ai fun _ k41 => ?_
   refine bn hP hN Try.mixed rfl ?_
   iterate 18 (refine aj rfl fun _ k0 => ?_; simp only [zO, zT, acs, reduceCtorEq, aa, V, ad, ag, af, ae, Mly.av]; (repeat refine an ?_); (try refine .inl ?_); apply k0; clear k0; simp only [zP, V])
   refine am ?_
   refine ⟨by kernel_rfl, ?_⟩
   apply k41; clear k41; refine kp [1, 3, 4, 5, 6, 7, 42, 43, 67, 68, 69] ?_
   refine ai fun _ k42 => ?_
   refine ak hP hN rfl ?_
   iterate 3 (refine aj rfl fun _ k0 => ?_; simp only [zO, zT, acs, reduceCtorEq, aa, V, ad, ag, af, ae, Mly.av]; (repeat refine an ?_); (try refine .inl ?_); apply k0; clear k0; simp only [zP, V])
   refine' aO (want := false) 3 rfl (m := 89) (by simp only [zP, aa, V]; exact rfl) (by kernel_rfl) rfl rfl rfl rfl rfl (fun hg43 => ?a43) ?b43 ?c43
   case a43 =>
    have hq43 := hg43; (try simp only [zB, reduceCtorEq] at hg43); simp only [zE]
    iterate 3 (refine bg rfl fun _ k0 => ?_; simp only [zO, zT, acs, reduceCtorEq, aa, V, ad, ag, af, ae, Mly.av]; (repeat refine an ?_); (try refine .inl ?_); apply k0; clear k0; simp only [zP, V])
    (refine aj rfl fun _ k0 => ?_; simp only [zO, zT, acs, reduceCtorEq, aa, V, ad, ag, af, ae, Mly.av]; (repeat refine an ?_); (try refine .inl ?_); apply k0; clear k0; simp only [zP, V])
    refine am ?_
    refine ⟨by simp only [zP, aa, V]; exact rfl, rfl, ?_, rfl⟩; (repeat refine aP rfl ?_); exact bo (by exact rfl) hq43
   case b43 => exact cr
   simp only [bb, aT]
   (refine aj rfl fun _ k0 => ?_; simp only [zO, zT, acs, reduceCtorEq, aa, V, ad, ag, af, ae, Mly.av]; (repeat refine an ?_); (try refine .inl ?_); apply k0; clear k0; simp only [zP, V])
   refine' aO (want := false) 2 rfl (m := 94) (by simp only [zP, aa, V]; exact rfl) (by kernel_rfl) rfl rfl rfl rfl rfl (fun hg44 => ?a44) ?b44 ?c44
   case a44 =>
    have hq44 := hg44; (try simp only [zB, reduceCtorEq] at hg44); simp only [zE]
    iterate 2 (refine bg rfl fun _ k0 => ?_; simp only [zO, zT, acs, reduceCtorEq, aa, V, ad, ag, af, ae, Mly.av]; (repeat refine an ?_); (try refine .inl ?_); apply k0; clear k0; simp only [zP, V])
    (refine aj rfl fun _ k0 => ?_; simp only [zO, zT, acs, reduceCtorEq, aa, V, ad, ag, af, ae, Mly.av]; (repeat refine an ?_); (try refine .inl ?_); apply k0; clear k0; simp only [zP, V])
    refine am ?_
    refine ⟨by simp only [zP, aa, V]; exact rfl, rfl, ?_, rfl⟩; (repeat refine aP rfl ?_); exact bo (by exact rfl) hq44
   case b44 => exact cr
   simp only [bb, aT]
   (refine aj rfl fun _ k0 => ?_; simp only [zO, zT, acs, reduceCtorEq, aa, V, ad, ag, af, ae, Mly.av]; (repeat refine an ?_); (try refine .inl ?_); apply k0; clear k0; simp only [zP, V])
   refine' aO (want := false) 2 rfl (m := 98) (by simp only [zP, aa, V]; exact rfl) (by kernel_rfl) rfl rfl rfl rfl rfl (fun hg45 => ?a45) ?b45 ?c45
   case a45 =>
    have hq45 := hg45; (try simp only [zB, reduceCtorEq] at hg45); simp only [zE]
    iterate 2 (refine bg rfl fun _ k0 => ?_; simp only [zO, zT, acs, reduceCtorEq, aa, V, ad, ag, af, ae, Mly.av]; (repeat refine an ?_); (try refine .inl ?_); apply k0; clear k0; simp only [zP, V])
    (refine aj rfl fun _ k0 => ?_; simp only [zO, zT, acs, reduceCtorEq, aa, V, ad, ag, af, ae, Mly.av]; (repeat refine an ?_); (try refine .inl ?_); apply k0; clear k0; simp only [zP, V])
    refine am ?_
    refine ⟨by simp only [zP, aa, V]; exact rfl, rfl, ?_, rfl⟩; (repeat refine aP rfl ?_); exact bo (by exact rfl) hq45
   case b45 => exact cr
   simp only [bb, aT]
   refine am ?_
   apply k42; clear k42; refine kp [1, 3, 4, 5, 6, 7, 42, 43, 67, 68, 69, 101] ?_
   refine cd (fun hc46 => ?_) (fun hc46 => ?_)
   ·(try simp only [zB, reduceCtorEq] at hc46)
    refine ai fun _ k47 => ?_
    refine ak hP hN rfl ?_
    (refine aj rfl fun _ k0 => ?_; simp only [zO, zT, acs, reduceCtorEq, aa, V, ad, ag, af, ae, Mly.av]; (repeat refine an ?_); (try refine .inl ?_); apply k0; clear k0; simp only [zP, V])
    refine am ?_
    apply k47; clear k47; refine kp [1, 2, 3, 4, 5, 6, 7, 42, 43, 67, 68, 69, 101] ?_
    refine aF ?_
    refine ⟨nr, _, rfl, ?_⟩; simp only [zF, zP, aa, V, Mly.av]
    refine VLE.of_eq ?_
    refine congrArg (fun n => AV.one (AC.int IntKind.i64 n)) ?_
    symm
    unfold aR
    first
    | (rw [if_pos (by omega)]; done)
    | (rw [if_neg (by omega), if_pos (by omega)]; done)
    | (rw [if_neg (by omega), if_neg (by omega), if_pos (by omega)]; done)
    | (rw [if_neg (by omega), if_neg (by omega), if_neg (by omega), if_pos (by omega)]; done)
    | (rw [if_neg (by omega), if_neg (by omega), if_neg (by omega), if_neg (by omega), if_pos (by omega)]; done)
    | (rw [if_neg (by omega), if_neg (by omega), if_neg (by omega), if_neg (by omega), if_neg (by omega)]
       first
       | exact (cf hrows (by omega) (by rw [cJ hc32.1 hc32.2 (j := j) (by omega) (by unfold bQ; omega)]; decide)).trans (cJ hc32.1 hc32.2 (by omega) (by unfold bQ; omega))
       | exact (cf hrows (by omega) (by rw [cI hc32]; decide)).trans (cI hc32)
       | exact cp fun i hi => hrows i (by omega))
   (try simp only [zB, reduceCtorEq] at hc46)
   refine ay ?_
   apply k39; clear k39; refine kp [1, 3, 4, 5, 6, 7, 42, 43, 67, 68, 69, 101] ?_
   refine ak hP hN rfl ?_
   iterate 2 (refine aj rfl fun _ k0 => ?_; simp only [zO, zT, acs, reduceCtorEq, aa, V, ad, ag, af, ae, Mly.av]; (repeat refine an ?_); (try refine .inl ?_); apply k0; clear k0; simp only [zP, V])
   refine am ?_
   refine ⟨_, _, ?_, ax [1, 3, 4, 42, 43, 67, 68], j + 1, ?_, fun a ha => ?_, rfl, rfl⟩
   · omega
   · omega
   · by_cases e : a = j
     · rw [e]; unfold bQ; omega
     · exact hcells a (by omega)
  (try simp only [zB, reduceCtorEq] at hc38)
  refine aV ?_
  apply k27; clear k27; refine kp [1, 3, 4, 42, 43, 67, 68, 69] ?_
  refine ak hP hN rfl ?_
  iterate 2 (refine aj rfl fun _ k0 => ?_; simp only [zO, zT, acs, reduceCtorEq, aa, V, ad, ag, af, ae, Mly.av]; (repeat refine an ?_); (try refine .inl ?_); apply k0; clear k0; simp only [zP, V])
  refine am ?_
  refine ⟨_, _, ?_, ax [1, 3, 42, 43], k + 1, by omega, fun i hi => ?_, rfl, rfl⟩
  · omega
  · by_cases e : i = k
    · rw [e]; exact mb hc32.1 hc32.2 fun a ha => hcells a (by omega)
    · exact hrows i (by omega)
 (try simp only [zB, reduceCtorEq] at hc26)
 refine aV ?_
 apply k21; clear k21; refine kp [1, 3, 42, 43, 44] ?_
 refine ai fun _ k48 => ?_
 refine ak hP hN rfl ?_
 (refine aj rfl fun _ k0 => ?_; simp only [zO, zT, acs, reduceCtorEq, aa, V, ad, ag, af, ae, Mly.av]; (repeat refine an ?_); (try refine .inl ?_); apply k0; clear k0; simp only [zP, V])
 refine am ?_
 apply k48; clear k48; refine kp [1, 2, 3, 42, 43, 44] ?_
 refine aF ?_
 refine ⟨nr, _, rfl, ?_⟩; simp only [zF, zP, aa, V, Mly.av]
 refine VLE.of_eq ?_
 refine congrArg (fun n => AV.one (AC.int IntKind.i64 n)) ?_
 symm
 unfold aR
 first
 | (rw [if_pos (by omega)]; done)
 | (rw [if_neg (by omega), if_pos (by omega)]; done)
 | (rw [if_neg (by omega), if_neg (by omega), if_pos (by omega)]; done)
 | (rw [if_neg (by omega), if_neg (by omega), if_neg (by omega), if_pos (by omega)]; done)
 | (rw [if_neg (by omega), if_neg (by omega), if_neg (by omega), if_neg (by omega), if_pos (by omega)]; done)
 | (rw [if_neg (by omega), if_neg (by omega), if_neg (by omega), if_neg (by omega), if_neg (by omega)]
    first
    | exact (cf hrows (by omega) (by rw [cJ hc32.1 hc32.2 (j := j) (by omega) (by unfold bQ; omega)]; decide)).trans (cJ hc32.1 hc32.2 (by omega) (by unfold bQ; omega))
    | exact (cf hrows (by omega) (by rw [cI hc32]; decide)).trans (cI hc32)
    | exact cp fun i hi => hrows i (by omega))
theorem Ah (m : Mly) (k : Int) : bP Try.prog 89 [m.av, .one (.int .i64 k)] (.tup [.one (.list (.int .i64) (if aR m = 0 then m.refC k else [])), .one (.int .i64 (aR m))]) := by
 refine aS Try.func89 rfl (by kernel_rfl) (Nat.le_of_ble_eq_true rfl) rfl fun C hP hN hB => ?_
 replace hN : C.N = 21 := hN
 simp only [bf, V]
 refine ai fun _ k1 => ?_
 refine ak hP hN rfl ?_
 iterate 3 (refine aj rfl fun _ k0 => ?_; simp only [zO, zT, acs, reduceCtorEq, aa, V, ad, ag, af, ae, Mly.av]; (repeat refine an ?_); (try refine .inl ?_); apply k0; clear k0; simp only [zP, V])
 refine am ?_
 apply k1; clear k1; refine kp [0, 1, 2, 4, 5] ?_
 refine ai fun _ k2 => ?_
 refine ai fun _ k3 => ?_
 refine ak hP hN rfl ?_
 (refine aj rfl fun _ k0 => ?_; simp only [zO, zT, acs, reduceCtorEq, aa, V, ad, ag, af, ae, Mly.av]; (repeat refine an ?_); (try refine .inl ?_); apply k0; clear k0; simp only [zP, V])
 refine aj rfl fun _ k0 => ?_
 refine aK (h := aE (jA m)) rfl rfl (by first | exact rfl | (simp only [ev, zP, aa, V]; exact rfl)) (by simp only [zV, acs, reduceCtorEq, aa, V, ad, ag, af, ae, Mly.av]) ?_
 apply k0; clear k0; simp only [zP, V]
 (refine aj rfl fun _ k0 => ?_; simp only [zO, zT, acs, reduceCtorEq, aa, V, ad, ag, af, ae, Mly.av]; (repeat refine an ?_); (try refine .inl ?_); apply k0; clear k0; simp only [zP, V])
 refine am ?_
 apply k3; clear k3; refine kp [0, 1, 2, 4, 5, 6] ?_
 refine ai fun _ k4 => ?_
 refine ak hP hN rfl ?_
 iterate 2 (refine aj rfl fun _ k0 => ?_; simp only [zO, zT, acs, reduceCtorEq, aa, V, ad, ag, af, ae, Mly.av]; (repeat refine an ?_); (try refine .inl ?_); apply k0; clear k0; simp only [zP, V])
 refine am ?_
 apply k4; clear k4; refine kp [0, 1, 2, 4, 5, 6, 12] ?_
 refine cd (fun hc5 => ?_) (fun hc5 => ?_)
 ·(try simp only [zB, reduceCtorEq] at hc5)
  refine ai fun _ k6 => ?_
  refine ak hP hN rfl ?_
  iterate 3 (refine aj rfl fun _ k0 => ?_; simp only [zO, zT, acs, reduceCtorEq, aa, V, ad, ag, af, ae, Mly.av]; (repeat refine an ?_); (try refine .inl ?_); apply k0; clear k0; simp only [zP, V])
  refine am ?_
  apply k6; clear k6; refine kp [0, 1, 2, 4, 5, 6, 12] ?_
  refine aF ?_
  refine ⟨nr, _, rfl, ?_⟩; simp only [zF, zP, aa, V, Mly.av]
  first
  | (rw [if_neg ‹¬aR m = 0›]; exact cg ⟨aU (bq rfl), aU (.refl _), trivial⟩)
  | (rw [if_pos ‹aR m = 0›, ‹aR m = 0›]; exact cg ⟨aU (.refl _), aU (.refl _), trivial⟩)
 (try simp only [zB, reduceCtorEq] at hc5)
 refine ay ?_
 apply k2; clear k2; refine kp [0, 1, 2, 4, 5, 6, 12] ?_
 refine ai fun _ k7 => ?_
 refine ak hP hN rfl ?_
 iterate 2 (refine aj rfl fun _ k0 => ?_; simp only [zO, zT, acs, reduceCtorEq, aa, V, ad, ag, af, ae, Mly.av]; (repeat refine an ?_); (try refine .inl ?_); apply k0; clear k0; simp only [zP, V])
 refine aj rfl fun _ k0 => ?_
 refine aK (h := aE (vz m k (eO (by assumption)))) rfl rfl (by first | exact rfl | (simp only [ev, zP, aa, V]; exact rfl)) (by simp only [zV, acs, reduceCtorEq, aa, V, ad, ag, af, ae, Mly.av]) ?_
 apply k0; clear k0; simp only [zP, V]
 iterate 5 (refine aj rfl fun _ k0 => ?_; simp only [zO, zT, acs, reduceCtorEq, aa, V, ad, ag, af, ae, Mly.av]; (repeat refine an ?_); (try refine .inl ?_); apply k0; clear k0; simp only [zP, V])
 refine am ?_
 apply k7; clear k7; refine kp [0, 1, 2, 4, 5, 6, 7, 12] ?_
 refine ai fun _ k8 => ?_
 refine ak hP hN rfl ?_
 iterate 3 (refine aj rfl fun _ k0 => ?_; simp only [zO, zT, acs, reduceCtorEq, aa, V, ad, ag, af, ae, Mly.av]; (repeat refine an ?_); (try refine .inl ?_); apply k0; clear k0; simp only [zP, V])
 refine am ?_
 apply k8; clear k8; refine kp [0, 1, 2, 4, 5, 6, 7, 12] ?_
 refine aF ?_
 refine ⟨nr, _, rfl, ?_⟩; simp only [zF, zP, aa, V, Mly.av]
 first
 | (rw [if_neg ‹¬aR m = 0›]; exact cg ⟨aU (bq rfl), aU (.refl _), trivial⟩)
 | (rw [if_pos ‹aR m = 0›, ‹aR m = 0›]; exact cg ⟨aU (.refl _), aU (.refl _), trivial⟩)
theorem vL (m : Mly) : bP Try.prog 82 [m.av] (.tup [.one (.list (.int .i64) (if aR m = 0 then m.eqc else [])), .one (.int .i64 (aR m))]) := by
 refine aS Try.func82 rfl (by kernel_rfl) (Nat.le_of_ble_eq_true rfl) rfl fun C hP hN hB => ?_
 replace hN : C.N = 8 := hN
 simp only [bf, V]
 refine ai fun _ k1 => ?_
 refine ak hP hN rfl ?_
 iterate 3 (refine aj rfl fun _ k0 => ?_; simp only [zO, zT, acs, reduceCtorEq, aa, V, ad, ag, af, ae, Mly.av]; (repeat refine an ?_); (try refine .inl ?_); apply k0; clear k0; simp only [zP, V])
 refine am ?_
 apply k1; clear k1; refine kp [0, 1, 2, 3] ?_
 refine ai fun _ k2 => ?_
 refine ak hP hN rfl ?_
 (refine aj rfl fun _ k0 => ?_; simp only [zO, zT, acs, reduceCtorEq, aa, V, ad, ag, af, ae, Mly.av]; (repeat refine an ?_); (try refine .inl ?_); apply k0; clear k0; simp only [zP, V])
 refine aj rfl fun _ k0 => ?_
 refine aK (h := aE (Ah m 128)) rfl rfl (by first | exact rfl | (simp only [ev, zP, aa, V]; exact rfl)) (by simp only [zV, acs, reduceCtorEq, aa, V, ad, ag, af, ae, Mly.av]) ?_
 apply k0; clear k0; simp only [zP, V]
 iterate 4 (refine aj rfl fun _ k0 => ?_; simp only [zO, zT, acs, reduceCtorEq, aa, V, ad, ag, af, ae, Mly.av]; (repeat refine an ?_); (try refine .inl ?_); apply k0; clear k0; simp only [zP, V])
 refine am ?_
 apply k2; clear k2; refine kp [0, 1, 2, 3] ?_
 refine aF ?_
 refine ⟨nr, _, rfl, ?_⟩; simp only [zF, zP, aa, V, Mly.av]
 refine VLE.of_eq ?_
 rfl
theorem uU (m : Mly) (hv : aR m = 0) : bP Try.prog 82 [m.av] (.tup [.one (.list (.int .i64) m.eqc), .one (.int .i64 0)]) := by
  have h := vL m
  rw [if_pos hv, hv] at h
  exact h

theorem w8  : bP Try.prog 51 [.one .nils] (.one .nils) := by
 refine aS Try.func51 rfl (by kernel_rfl) (Nat.le_of_ble_eq_true rfl) rfl fun C hP hN hB => ?_
 replace hN : C.N = 8 := hN
 simp only [bf, V]
 refine ai fun _ k1 => ?_
 refine ak hP hN rfl ?_
 (refine aj rfl fun _ k0 => ?_; simp only [zO, zT, acs, reduceCtorEq, aa, V, ad, ag, af, ae]; (repeat refine an ?_); (try refine .inl ?_); apply k0; clear k0; simp only [zP, V])
 refine am ?_
 apply k1; clear k1; refine kp [0, 2] ?_
 refine ai fun _ k2 => ?_
 refine ai fun _ k3 => ?_
 refine ak hP hN rfl ?_
 iterate 2 (refine aj rfl fun _ k0 => ?_; simp only [zO, zT, acs, reduceCtorEq, aa, V, ad, ag, af, ae]; (repeat refine an ?_); (try refine .inl ?_); apply k0; clear k0; simp only [zP, V])
 refine am ?_
 apply k3; clear k3; refine kp [0, 2, 4] ?_
 refine cd (fun hc4 => ?_) (fun hc4 => ?_)
 ·(try simp only [zB, reduceCtorEq] at hc4)
  refine ai fun _ k5 => ?_
  refine ak hP hN rfl ?_
  (refine aj rfl fun _ k0 => ?_; simp only [zO, zT, acs, reduceCtorEq, aa, V, ad, ag, af, ae]; (repeat refine an ?_); (try refine .inl ?_); apply k0; clear k0; simp only [zP, V])
  refine am ?_
  apply k5; clear k5; refine kp [0, 2, 4] ?_
  refine aF ?_
  refine ⟨nr, _, rfl, ?_⟩; simp only [zF, zP, aa, V]
  refine VLE.of_eq ?_
  rfl
 · exfalso; (try simp only [zB, reduceCtorEq] at hc4); all_goals (first | (cases hc4; done) | omega | (simp at hc4; done) | (simp_all; done))
theorem Aa  : bP Try.prog 51 [.one .emp] (.one (.list (.int .i64) [])) := by
 refine aS Try.func51 rfl (by kernel_rfl) (Nat.le_of_ble_eq_true rfl) rfl fun C hP hN hB => ?_
 replace hN : C.N = 8 := hN
 simp only [bf, V]
 refine ai fun _ k1 => ?_
 refine ak hP hN rfl ?_
 (refine aj rfl fun _ k0 => ?_; simp only [zO, zT, acs, reduceCtorEq, aa, V, ad, ag, af, ae]; (repeat refine an ?_); (try refine .inl ?_); apply k0; clear k0; simp only [zP, V])
 refine am ?_
 apply k1; clear k1; refine kp [0, 2] ?_
 refine ai fun _ k2 => ?_
 refine ai fun _ k3 => ?_
 refine ak hP hN rfl ?_
 iterate 2 (refine aj rfl fun _ k0 => ?_; simp only [zO, zT, acs, reduceCtorEq, aa, V, ad, ag, af, ae]; (repeat refine an ?_); (try refine .inl ?_); apply k0; clear k0; simp only [zP, V])
 refine am ?_
 apply k3; clear k3; refine kp [0, 2, 4] ?_
 refine cd (fun hc4 => ?_) (fun hc4 => ?_)
 · exfalso; (try simp only [zB, reduceCtorEq] at hc4); all_goals (first | (cases hc4; done) | omega | (simp at hc4; done) | (simp_all; done))
 (try simp only [zB, reduceCtorEq] at hc4)
 refine ay ?_
 apply k2; clear k2; refine kp [0, 2, 4] ?_
 refine ai fun _ k5 => ?_
 refine ak hP hN rfl ?_
 (refine aj rfl fun _ k0 => ?_; simp only [zO, zT, acs, reduceCtorEq, aa, V, ad, ag, af, ae]; (repeat refine an ?_); refine Or.inr (Or.inl (k0 _ ?_)); clear k0; simp only [zP, V])
 iterate 3 (refine aj rfl fun _ k0 => ?_; simp only [zO, zT, acs, reduceCtorEq, aa, V, ad, ag, af, ae]; (repeat refine an ?_); (try refine .inl ?_); apply k0; clear k0; simp only [zP, V])
 refine am ?_
 apply k5; clear k5; refine kp [0, 2, 4] ?_
 refine aF ?_
 refine ⟨nr, _, rfl, ?_⟩; simp only [zF, zP, aa, V]
 refine VLE.of_eq ?_
 rfl
theorem Ad (xs : List Int) (h0 : 0 < xs.length) (h1 : xs.length ≤ 10000000000000) : bP Try.prog 51 [.one (.list (.int .i64) xs)] (.one (.list (.int .i64) xs)) := by
 refine aS Try.func51 rfl (by kernel_rfl) (Nat.le_of_ble_eq_true rfl) rfl fun C hP hN hB => ?_
 replace hN : C.N = 8 := hN
 simp only [bf, V]
 refine ai fun _ k1 => ?_
 refine ak hP hN rfl ?_
 (refine aj rfl fun _ k0 => ?_; simp only [zO, zT, acs, reduceCtorEq, aa, V, ad, ag, af, ae]; (repeat refine an ?_); (try refine .inl ?_); apply k0; clear k0; simp only [zP, V])
 refine am ?_
 apply k1; clear k1; refine kp [0, 2] ?_
 refine ai fun _ k2 => ?_
 refine ai fun _ k3 => ?_
 refine ak hP hN rfl ?_
 iterate 2 (refine aj rfl fun _ k0 => ?_; simp only [zO, zT, acs, reduceCtorEq, aa, V, ad, ag, af, ae]; (repeat refine an ?_); (try refine .inl ?_); apply k0; clear k0; simp only [zP, V])
 refine am ?_
 apply k3; clear k3; refine kp [0, 2, 4] ?_
 refine cd (fun hc4 => ?_) (fun hc4 => ?_)
 · exfalso; (try simp only [zB, reduceCtorEq] at hc4); all_goals (first | (cases hc4; done) | omega | (simp at hc4; done) | (simp_all; done))
 (try simp only [zB, reduceCtorEq] at hc4)
 refine ay ?_
 apply k2; clear k2; refine kp [0, 2, 4] ?_
 refine ai fun _ k5 => ?_
 refine ak hP hN rfl ?_
 (refine aj rfl fun _ k0 => ?_; simp only [zO, zT, acs, reduceCtorEq, aa, V, ad, ag, af, ae]; (repeat refine an ?_); refine Or.inr (Or.inl (k0 _ ?_)); clear k0; simp only [zP, V])
 iterate 3 (refine aj rfl fun _ k0 => ?_; simp only [zO, zT, acs, reduceCtorEq, aa, V, ad, ag, af, ae]; (repeat refine an ?_); (try refine .inl ?_); apply k0; clear k0; simp only [zP, V])
 refine am ?_
 apply k5; clear k5; refine kp [0, 2, 4] ?_
 refine aF ?_
 refine ⟨nr, _, rfl, ?_⟩; simp only [zF, zP, aa, V]
 refine VLE.of_eq ?_
 rfl
theorem tO (xs : List Int) (h : xs.length ≤ 10000000000000) : bP Try.prog 51 [.one (.list (.int .i64) xs)] (.one (.list (.int .i64) xs)) :=
  tJ (t := .int .i64) (fun e => vw w8 (jS (bq e))) (fun e => by subst e; exact Aa) (fun h0 => Ad xs h0 h) w8.1

theorem uO (m : Mly) : bP Try.prog 69 [m.av] (.one (.list (.int .i64) m.reach)) := by
 refine aS Try.func69 rfl (by kernel_rfl) (Nat.le_of_ble_eq_true rfl) rfl fun C hP hN hB => ?_
 replace hN : C.N = 55 := hN
 simp only [bf, V]
 refine ai fun _ k1 => ?_
 refine ak hP hN rfl ?_
 iterate 2 (refine aj rfl fun _ k0 => ?_; simp only [zO, zT, acs, reduceCtorEq, aa, V, ad, ag, af, ae, Mly.av]; (repeat refine an ?_); (try refine .inl ?_); apply k0; clear k0; simp only [zP, V])
 refine am ?_
 apply k1; clear k1; refine kp [0, 1, 2] ?_
 refine ai fun _ k2 => ?_
 refine ai fun _ k3 => ?_
 refine ak hP hN rfl ?_
 (refine aj rfl fun _ k0 => ?_; simp only [zO, zT, acs, reduceCtorEq, aa, V, ad, ag, af, ae, Mly.av]; (repeat refine an ?_); (try refine .inl ?_); apply k0; clear k0; simp only [zP, V])
 refine aj rfl fun _ k0 => ?_
 refine aK (h := aE (jA m)) rfl rfl (by first | exact rfl | (simp only [ev, zP, aa, V]; exact rfl)) (by simp only [zV, acs, reduceCtorEq, aa, V, ad, ag, af, ae, Mly.av]) ?_
 apply k0; clear k0; simp only [zP, V]
 (refine aj rfl fun _ k0 => ?_; simp only [zO, zT, acs, reduceCtorEq, aa, V, ad, ag, af, ae, Mly.av]; (repeat refine an ?_); (try refine .inl ?_); apply k0; clear k0; simp only [zP, V])
 refine am ?_
 apply k3; clear k3; refine kp [0, 1, 2, 10] ?_
 refine cd (fun hc4 => ?_) (fun hc4 => ?_)
 ·(try simp only [zB, reduceCtorEq] at hc4)
  refine ai fun _ k5 => ?_
  refine ak hP hN rfl ?_
  (refine aj rfl fun _ k0 => ?_; simp only [zO, zT, acs, reduceCtorEq, aa, V, ad, ag, af, ae, Mly.av]; (repeat refine an ?_); (try refine .inl ?_); apply k0; clear k0; simp only [zP, V])
  refine am ?_
  apply k5; clear k5; refine kp [0, 1, 2, 10] ?_
  refine aF ?_
  refine ⟨nr, _, rfl, ?_⟩; simp only [zF, zP, aa, V, Mly.av]
  first
  | (rw [oL ‹¬aR m = 0›]; exact jS (bq rfl))
  | (rw [← hrf, fz _ _ _ _ (by omega)]; exact VLE.of_eq (by simp))
 (try simp only [zB, reduceCtorEq] at hc4)
 refine ay ?_
 apply k2; clear k2; refine kp [0, 1, 2, 10] ?_
 refine ai fun _ k6 => ?_
 have hv : aR m = 0 := by assumption
 have hm := eO hv; have h1 := hm.s1; have h2 := hm.s2; have h3 := hm.n2; have hrp : (List.replicate m.nx.length false).length = m.nx.length := bj
 refine ak hP hN rfl ?_
 iterate 3 (refine aj rfl fun _ k0 => ?_; simp only [zO, zT, acs, reduceCtorEq, aa, V, ad, ag, af, ae, Mly.av]; (repeat refine an ?_); (try refine .inl ?_); apply k0; clear k0; simp only [zP, V])
 (refine aj rfl fun _ k0 => ?_; simp only [zE, op1, ev, lkp, cY, bK, bM, d7, Nat.mul_one, bS, cL, acs, Ty.dflt, zG, bZ, cj, eW, dW, cE, cW, eh, Nat.div_one, cH, d5, Ty.size, br, dite_true, cQ, reduceCtorEq, aa, V, ad, ag, af, ae, Try.el107, Try.el22, Try.st24, Try.td107, Try.td2, Try.td22, Try.td24, Try.td3, Mly.av]; (repeat refine an ?_); (try refine .inl ?_); apply k0; clear k0; simp only [zP, V])
 (refine aj rfl fun _ k0 => ?_; simp only [zO, zT, acs, reduceCtorEq, aa, V, ad, ag, af, ae, Mly.av]; (repeat refine an ?_); (try refine .inl ?_); apply k0; clear k0; simp only [zP, V])
 refine am ?_
 apply k6; clear k6; refine kp [0, 1, 2, 3, 10] ?_
 refine ai fun _ k7 => ?_
 refine ak hP hN rfl ?_
 iterate 5 (refine aj rfl fun _ k0 => ?_; simp only [zO, zT, acs, reduceCtorEq, aa, V, ad, ag, af, ae, Mly.av]; (repeat refine an ?_); (try refine .inl ?_); apply k0; clear k0; simp only [zP, V])
 refine am ?_
 apply k7; clear k7; refine kp [0, 1, 2, 3, 10] ?_
 refine ai fun _ k8 => ?_
 refine ak hP hN rfl ?_
 iterate 2 (refine aj rfl fun _ k0 => ?_; simp only [zO, zT, acs, reduceCtorEq, aa, V, ad, ag, af, ae, Mly.av]; (repeat refine an ?_); (try refine .inl ?_); apply k0; clear k0; simp only [zP, V])
 (refine aj rfl fun _ k0 => ?_; simp only [zO, zT, acs, reduceCtorEq, aa, V, ad, ag, af, ae, Mly.av]; (repeat refine an ?_); refine Or.inr (Or.inl (k0 _ ?_)); clear k0; simp only [zP, V])
 (refine aj rfl fun _ k0 => ?_; simp only [zO, zT, acs, reduceCtorEq, aa, V, ad, ag, af, ae, Mly.av]; (repeat refine an ?_); (try refine .inl ?_); apply k0; clear k0; simp only [zP, V])
 refine am ?_
 apply k8; clear k8; refine kp [0, 1, 2, 3, 4, 10] ?_
 refine ai fun _ k9 => ?_
 refine ai fun _ k10 => ?_
 refine ak hP hN rfl ?_
 (refine aj rfl fun _ k0 => ?_; simp only [zO, zT, acs, reduceCtorEq, aa, V, ad, ag, af, ae, Mly.av]; (repeat refine an ?_); (try refine .inl ?_); apply k0; clear k0; simp only [zP, V])
 refine am ?_
 apply k10; clear k10; refine kp [0, 1, 2, 3, 4, 5, 10] ?_
 refine aA ?_
 refine aY (fun n11 s11 => ∃ (i : Nat) (l : List Int) (v : Nat), (RSet m.nx.length l) ∧ (m.rf (m.nx.length + 1 - i) i l = m.reach) ∧ (i ≤ l.length) ∧ n11 = m.nx.length + 1 - i ∧ s11 = { env := [(1, .one (.ptr 0 0 0 0)), (3, .one (.row 1 0)), (4, .one (.row 2 v)), (5, .one (.int .i64 (i : Int)))], L := [.vars 24 [.int .i64 m.inp, .int .i64 m.st, .list (.list (.int .i64)) m.nx, .list (.list (.int .i64)) m.ot], .row .bool 4 0 (fB m.nx.length l), .row (.int .i64) 3 v l] }) ?_ ?_
 ·refine ⟨_, _, ax [1, 3, 4, 5], 0, [m.st], 0, gS hm, (dG hv).symm, Nat.zero_le _, rfl, ?_⟩
  have hs := mS (n := m.nx.length) (l := []) hm.s1 hm.s2
  rw [wV]
  simp only [b6] at hs
  rw [hs]; rfl
 rintro n11 s11 ⟨i, l, v, hR, hrf, hi, rfl, rfl⟩
 refine ai fun _ k12 => ?_
 refine ai fun _ k13 => ?_
 refine ak hP hN rfl ?_
 iterate 4 (refine aj rfl fun _ k0 => ?_; simp only [zO, zT, acs, reduceCtorEq, aa, V, ad, ag, af, ae, Mly.av]; (repeat refine an ?_); (try refine .inl ?_); apply k0; clear k0; simp only [zP, V])
 refine am ?_
 apply k13; clear k13; refine kp [1, 3, 4, 5, 25] ?_
 refine cd (fun hc14 => ?_) (fun hc14 => ?_)
 ·(try simp only [zB, reduceCtorEq] at hc14)
  refine ay ?_
  apply k12; clear k12; refine kp [1, 3, 4, 5, 25] ?_
  refine ai fun _ k15 => ?_
  refine aA ?_
  refine ai fun _ k16 => ?_
  have hx := hR.at_ (i := i) (by omega); have hl := hR.len; have hrl := hm.rl (l.getD i 0).toNat (by omega); have hi2 := hm.i2; have hrow : ((m.row (l.getD i 0)).length : Int) = m.inp := hrl
  refine bn hP hN Try.mixed rfl ?_
  iterate 10 (refine aj rfl fun _ k0 => ?_; simp only [zO, zT, acs, reduceCtorEq, aa, V, ad, ag, af, ae, Mly.av]; (repeat refine an ?_); (try refine .inl ?_); apply k0; clear k0; simp only [zP, V])
  refine am ?_
  refine ⟨by kernel_rfl, ?_⟩
  apply k16; clear k16; refine kp [1, 3, 4, 5, 25, 35, 36, 37] ?_
  refine aA ?_
  refine aY (fun n17 s17 => ∃ (j : Nat) (v2 : Nat), (j ≤ (m.row (l.getD i 0)).length) ∧ (RSet m.nx.length (((m.row (l.getD i 0)).take j).foldl bU l)) ∧ n17 = (m.row (l.getD i 0)).length - j ∧ s17 = { env := [(1, .one (.ptr 0 0 0 0)), (3, .one (.row 1 0)), (4, .one (.row 2 v2)), (5, .one (.int .i64 (i : Int))), (35, .one (.list (.int .i64) (m.row (l.getD i 0)))), (36, .one (.int .i64 ((m.row (l.getD i 0)).length : Int))), (37, .one (.int .i64 (j : Int)))], L := [.vars 24 [.int .i64 m.inp, .int .i64 m.st, .list (.list (.int .i64)) m.nx, .list (.list (.int .i64)) m.ot], .row .bool 4 0 (fB m.nx.length (((m.row (l.getD i 0)).take j).foldl bU l)), .row (.int .i64) 3 v2 (((m.row (l.getD i 0)).take j).foldl bU l)] }) ?_ ?_
  ·exact ⟨_, _, ax [1, 3, 4, 5, 35, 36, 37], 0, v, Nat.zero_le _, hR, rfl, rfl⟩
  rintro n17 s17 ⟨j, v2, hj, hRc, rfl, rfl⟩
  refine ai fun _ k18 => ?_
  refine ak hP hN rfl ?_
  (refine aj rfl fun _ k0 => ?_; simp only [zO, zT, acs, reduceCtorEq, aa, V, ad, ag, af, ae, Mly.av]; (repeat refine an ?_); (try refine .inl ?_); apply k0; clear k0; simp only [zP, V])
  refine am ?_
  apply k18; clear k18; refine kp [1, 3, 4, 5, 35, 36, 37, 38] ?_
  refine ai fun _ k19 => ?_
  refine cd (fun hc20 => ?_) (fun hc20 => ?_)
  ·(try simp only [zB, reduceCtorEq] at hc20)
   refine ay ?_
   apply k19; clear k19; refine kp [1, 3, 4, 5, 35, 36, 37, 38] ?_
   refine ai fun _ k21 => ?_
   refine aA ?_
   refine ai fun _ k22 => ?_
   refine ak hP hN rfl ?_
   iterate 3 (refine aj rfl fun _ k0 => ?_; simp only [zO, zT, acs, reduceCtorEq, aa, V, ad, ag, af, ae, Mly.av]; (repeat refine an ?_); (try refine .inl ?_); apply k0; clear k0; simp only [zP, V])
   refine am ?_
   apply k22; clear k22; refine kp [1, 3, 4, 5, 7, 35, 36, 37, 38] ?_
   refine ai fun _ k23 => ?_
   have ht := gF hm hx.1 hx.2 ((m.row (l.getD i 0)).getD j 0) (bl (by omega)); have hse := z5 (l := (((m.row (l.getD i 0)).take j).foldl bU l)) ht.1 ht.2; have hsl := x5 m.nx.length (((m.row (l.getD i 0)).take j).foldl bU l); have hcl := hRc.len
   refine ak hP hN rfl ?_
   iterate 5 (refine aj rfl fun _ k0 => ?_; simp only [zO, zT, acs, reduceCtorEq, aa, V, ad, ag, af, ae, Mly.av]; (repeat refine an ?_); (try refine .inl ?_); apply k0; clear k0; simp only [zP, V])
   refine am ?_
   apply k23; clear k23; refine kp [1, 3, 4, 5, 7, 35, 36, 37, 38, 45] ?_
   refine cd (fun hc24 => ?_) (fun hc24 => ?_)
   ·(try simp only [zB, reduceCtorEq] at hc24)
    refine ai fun _ k25 => ?_
    refine ak hP hN rfl ?_
    iterate 4 (refine aj rfl fun _ k0 => ?_; simp only [zO, zT, acs, reduceCtorEq, aa, V, ad, ag, af, ae, Mly.av]; (repeat refine an ?_); (try refine .inl ?_); apply k0; clear k0; simp only [zP, V])
    refine am ?_
    apply k25; clear k25; refine kp [1, 3, 4, 5, 7, 35, 36, 37, 38, 45] ?_
    refine ak hP hN rfl ?_
    iterate 5 (refine aj rfl fun _ k0 => ?_; simp only [zO, zT, acs, reduceCtorEq, aa, V, ad, ag, af, ae, Mly.av]; (repeat refine an ?_); (try refine .inl ?_); apply k0; clear k0; simp only [zP, V])
    refine am ?_
    apply k21; clear k21; refine kp [1, 3, 4, 5, 7, 35, 36, 37, 38, 45] ?_
    refine ak hP hN rfl ?_
    iterate 2 (refine aj rfl fun _ k0 => ?_; simp only [zO, zT, acs, reduceCtorEq, aa, V, ad, ag, af, ae, Mly.av]; (repeat refine an ?_); (try refine .inl ?_); apply k0; clear k0; simp only [zP, V])
    refine am ?_
    first
    | (have hnin : ¬ ((m.row (l.getD i 0)).getD j 0 ∈ (((m.row (l.getD i 0)).take j).foldl bU l)) := by
         intro hin; rw [decide_eq_true hin] at hse; have hh := hc24; rw [hse] at hh; cases hh
       refine ⟨_, _, ?_, ax [1, 3, 4, 5, 35, 36, 37], j + 1, v2 + 1, by omega, ?_, rfl, ?_⟩
       · omega
       · exact RSet.take hm hR hx.1 hx.2 (j + 1)
       · rw [gv (by omega), eD hnin, ← mS ht.1 ht.2]; rfl)
    | (have hin : ((m.row (l.getD i 0)).getD j 0 ∈ (((m.row (l.getD i 0)).take j).foldl bU l)) := by
         have hh := hc24; rw [hse] at hh; exact of_decide_eq_true hh
       refine ⟨_, _, ?_, ax [1, 3, 4, 5, 35, 36, 37], j + 1, v2, by omega, ?_, rfl, ?_⟩
       · omega
       · exact RSet.take hm hR hx.1 hx.2 (j + 1)
       · rw [gv (by omega), gd hin]; rfl)
   (try simp only [zB, reduceCtorEq] at hc24)
   refine ay ?_
   apply k21; clear k21; refine kp [1, 3, 4, 5, 7, 35, 36, 37, 38, 45] ?_
   refine ak hP hN rfl ?_
   iterate 2 (refine aj rfl fun _ k0 => ?_; simp only [zO, zT, acs, reduceCtorEq, aa, V, ad, ag, af, ae, Mly.av]; (repeat refine an ?_); (try refine .inl ?_); apply k0; clear k0; simp only [zP, V])
   refine am ?_
   first
   | (have hnin : ¬ ((m.row (l.getD i 0)).getD j 0 ∈ (((m.row (l.getD i 0)).take j).foldl bU l)) := by
        intro hin; rw [decide_eq_true hin] at hse; have hh := hc24; rw [hse] at hh; cases hh
      refine ⟨_, _, ?_, ax [1, 3, 4, 5, 35, 36, 37], j + 1, v2 + 1, by omega, ?_, rfl, ?_⟩
      · omega
      · exact RSet.take hm hR hx.1 hx.2 (j + 1)
      · rw [gv (by omega), eD hnin, ← mS ht.1 ht.2]; rfl)
   | (have hin : ((m.row (l.getD i 0)).getD j 0 ∈ (((m.row (l.getD i 0)).take j).foldl bU l)) := by
        have hh := hc24; rw [hse] at hh; exact of_decide_eq_true hh
      refine ⟨_, _, ?_, ax [1, 3, 4, 5, 35, 36, 37], j + 1, v2, by omega, ?_, rfl, ?_⟩
      · omega
      · exact RSet.take hm hR hx.1 hx.2 (j + 1)
      · rw [gv (by omega), gd hin]; rfl)
  (try simp only [zB, reduceCtorEq] at hc20)
  refine aV ?_
  apply k15; clear k15; refine kp [1, 3, 4, 5, 35, 36, 37, 38] ?_
  refine ak hP hN rfl ?_
  iterate 3 (refine aj rfl fun _ k0 => ?_; simp only [zO, zT, acs, reduceCtorEq, aa, V, ad, ag, af, ae, Mly.av]; (repeat refine an ?_); (try refine .inl ?_); apply k0; clear k0; simp only [zP, V])
  refine am ?_
  have hjr : (m.row (l.getD i 0)).take j = m.row (l.getD i 0) := List.take_of_length_le (by omega)
  rw [hjr] at hRc
  have hge := lw (m.row (l.getD i 0)) l
  refine ⟨_, _, ?_, ax [1, 3, 4, 5], i + 1, (m.row (l.getD i 0)).foldl bU l, v2, hRc, ?_, by omega, rfl, ?_⟩
  · omega
  · rw [← hrf, show m.nx.length + 1 - i = (m.nx.length + 1 - (i + 1)) + 1 by omega, gB m _ _ _ (by omega)]
  · rw [hjr]; rfl
 (try simp only [zB, reduceCtorEq] at hc14)
 refine aV ?_
 apply k9; clear k9; refine kp [1, 3, 4, 5, 25] ?_
 refine ai fun _ k26 => ?_
 refine ak hP hN rfl ?_
 iterate 2 (refine aj rfl fun _ k0 => ?_; simp only [zO, zT, acs, reduceCtorEq, aa, V, ad, ag, af, ae, Mly.av]; (repeat refine an ?_); (try refine .inl ?_); apply k0; clear k0; simp only [zP, V])
 refine am ?_
 apply k26; clear k26; refine kp [1, 2, 3, 4, 5, 25] ?_
 refine aF ?_
 refine ⟨nr, _, rfl, ?_⟩; simp only [zF, zP, aa, V, Mly.av]
 first
 | (rw [oL ‹¬aR m = 0›]; exact jS (bq rfl))
 | (rw [← hrf, fz _ _ _ _ (by omega)]; exact VLE.of_eq (by simp))
theorem Aw (m : Mly) : bP Try.prog 81 [m.av] (.tup [m.trim.av, .one (.int .i64 (aR m))]) := by
 refine aS Try.func81 rfl (by kernel_rfl) (Nat.le_of_ble_eq_true rfl) rfl fun C hP hN hB => ?_
 replace hN : C.N = 89 := hN
 simp only [bf, V]
 refine ai fun _ k1 => ?_
 refine ak hP hN rfl ?_
 iterate 3 (refine aj rfl fun _ k0 => ?_; simp only [zO, zT, acs, reduceCtorEq, aa, V, ad, ag, af, ae, Mly.av]; (repeat refine an ?_); (try refine .inl ?_); apply k0; clear k0; simp only [zP, V])
 refine am ?_
 apply k1; clear k1; refine kp [0, 1, 2, 3] ?_
 refine ai fun _ k2 => ?_
 refine ai fun _ k3 => ?_
 refine ak hP hN rfl ?_
 (refine aj rfl fun _ k0 => ?_; simp only [zO, zT, acs, reduceCtorEq, aa, V, ad, ag, af, ae, Mly.av]; (repeat refine an ?_); (try refine .inl ?_); apply k0; clear k0; simp only [zP, V])
 refine aj rfl fun _ k0 => ?_
 refine aK (h := aE (jA m)) rfl rfl (by first | exact rfl | (simp only [ev, zP, aa, V]; exact rfl)) (by simp only [zV, acs, reduceCtorEq, aa, V, ad, ag, af, ae, Mly.av]) ?_
 apply k0; clear k0; simp only [zP, V]
 (refine aj rfl fun _ k0 => ?_; simp only [zO, zT, acs, reduceCtorEq, aa, V, ad, ag, af, ae, Mly.av]; (repeat refine an ?_); (try refine .inl ?_); apply k0; clear k0; simp only [zP, V])
 refine am ?_
 apply k3; clear k3; refine kp [0, 1, 2, 3, 4] ?_
 refine ai fun _ k4 => ?_
 refine ak hP hN rfl ?_
 iterate 2 (refine aj rfl fun _ k0 => ?_; simp only [zO, zT, acs, reduceCtorEq, aa, V, ad, ag, af, ae, Mly.av]; (repeat refine an ?_); (try refine .inl ?_); apply k0; clear k0; simp only [zP, V])
 refine am ?_
 apply k4; clear k4; refine kp [0, 1, 2, 3, 4, 18] ?_
 refine cd (fun hc5 => ?_) (fun hc5 => ?_)
 ·(try simp only [zB, reduceCtorEq] at hc5)
  refine ai fun _ k6 => ?_
  refine ak hP hN rfl ?_
  iterate 4 (refine aj rfl fun _ k0 => ?_; simp only [zO, zT, acs, reduceCtorEq, aa, V, ad, ag, af, ae, Mly.av]; (repeat refine an ?_); (try refine .inl ?_); apply k0; clear k0; simp only [zP, V])
  refine am ?_
  apply k6; clear k6; refine kp [0, 1, 2, 3, 4, 18] ?_
  refine aF ?_
  refine ⟨nr, _, rfl, ?_⟩; simp only [zF, zP, aa, V, Mly.av]
  first
  | (rw [rn ‹¬aR m = 0›]
     exact cg ⟨dq ⟨.refl _, .refl _, bq rfl, bq rfl, trivial⟩, aU (.refl _), trivial⟩)
  | (rw [pj hv, hv]
     have hk3 : k = m.reach.length := by omega
     have e1 : m.tnx.take k = m.tnx := List.take_of_length_le (by simp [Mly.tnx]; omega)
     have e2 : m.tot.take k = m.tot := List.take_of_length_le (by simp [Mly.tot]; omega)
     rw [e1, e2]
     exact VLE.of_eq (by simp [fzC]; rfl))
 (try simp only [zB, reduceCtorEq] at hc5)
 refine ay ?_
 apply k2; clear k2; refine kp [0, 1, 2, 3, 4, 18] ?_
 refine ai fun _ k7 => ?_
 refine ak hP hN rfl ?_
 (refine aj rfl fun _ k0 => ?_; simp only [zO, zT, acs, reduceCtorEq, aa, V, ad, ag, af, ae, Mly.av]; (repeat refine an ?_); (try refine .inl ?_); apply k0; clear k0; simp only [zP, V])
 refine aj rfl fun _ k0 => ?_
 refine aK (h := aE (uO m)) rfl rfl (by first | exact rfl | (simp only [ev, zP, aa, V]; exact rfl)) (by simp only [zV, acs, reduceCtorEq, aa, V, ad, ag, af, ae, Mly.av]) ?_
 apply k0; clear k0; simp only [zP, V]
 (refine aj rfl fun _ k0 => ?_; simp only [zO, zT, acs, reduceCtorEq, aa, V, ad, ag, af, ae, Mly.av]; (repeat refine an ?_); (try refine .inl ?_); apply k0; clear k0; simp only [zP, V])
 refine am ?_
 apply k7; clear k7; refine kp [0, 1, 2, 3, 4, 5, 18] ?_
 refine ai fun _ k8 => ?_
 have hv : aR m = 0 := by assumption
 have hm := eO hv; have h3 := hm.n2; have hR := fK hm; have hRl := hR.len; have hi1 := hm.i1; have hi2 := hm.i2; have hol := hm.ol
 refine ak hP hN rfl ?_
 iterate 3 (refine aj rfl fun _ k0 => ?_; simp only [zO, zT, acs, reduceCtorEq, aa, V, ad, ag, af, ae, Mly.av]; (repeat refine an ?_); (try refine .inl ?_); apply k0; clear k0; simp only [zP, V])
 (refine aj rfl fun _ k0 => ?_; simp only [zE, op1, ev, lkp, cY, bK, bM, d7, Nat.mul_one, bS, cL, acs, Ty.dflt, zG, bZ, cj, eW, dW, cE, cW, eh, Nat.div_one, cH, d5, Ty.size, br, dite_true, cQ, reduceCtorEq, aa, V, ad, ag, af, ae, Try.el22, Try.el41, Try.st24, Try.td2, Try.td22, Try.td24, Try.td3, Try.td41, Mly.av]; (repeat refine an ?_); (try refine .inl ?_); apply k0; clear k0; simp only [zP, V])
 (refine aj rfl fun _ k0 => ?_; simp only [zO, zT, acs, reduceCtorEq, aa, V, ad, ag, af, ae, Mly.av]; (repeat refine an ?_); (try refine .inl ?_); apply k0; clear k0; simp only [zP, V])
 refine am ?_
 apply k8; clear k8; refine kp [0, 1, 2, 3, 4, 5, 6, 18] ?_
 refine ai fun _ k9 => ?_
 refine ai fun _ k10 => ?_
 refine ak hP hN rfl ?_
 iterate 3 (refine aj rfl fun _ k0 => ?_; simp only [zO, zT, acs, reduceCtorEq, aa, V, ad, ag, af, ae, Mly.av]; (repeat refine an ?_); (try refine .inl ?_); apply k0; clear k0; simp only [zP, V])
 refine am ?_
 apply k10; clear k10; refine kp [0, 1, 2, 3, 4, 5, 6, 18, 27, 28, 29] ?_
 refine aA ?_
 refine aY (fun n11 s11 => ∃ (k : Nat), (k ≤ m.reach.length) ∧ n11 = m.reach.length - k ∧ s11 = { env := [(1, .one (.ptr 0 0 0 0)), (2, .one (.ptr 1 0 0 0)), (5, .one (.list (.int .i64) m.reach)), (6, .one (.row 2 0)), (27, .one (.list (.int .i64) m.reach)), (28, .one (.int .i64 (m.reach.length : Int))), (29, .one (.int .i64 (k : Int)))], L := [.vars 24 [.int .i64 m.inp, .int .i64 m.st, .list (.list (.int .i64)) m.nx, .list (.list (.int .i64)) m.ot], .vars 24 [.int .i64 0, .int .i64 0, .nils, .nils], .row (.int .i64) 3 0 (nt m.nx.length m.reach k)] }) ?_ ?_
 ·exact ⟨_, _, ax [1, 2, 5, 6, 27, 28, 29], 0, Nat.zero_le _, rfl, rfl⟩
 rintro n11 s11 ⟨k, hk, rfl, rfl⟩
 refine ai fun _ k12 => ?_
 refine ak hP hN rfl ?_
 (refine aj rfl fun _ k0 => ?_; simp only [zO, zT, acs, reduceCtorEq, aa, V, ad, ag, af, ae, Mly.av]; (repeat refine an ?_); (try refine .inl ?_); apply k0; clear k0; simp only [zP, V])
 refine am ?_
 apply k12; clear k12; refine kp [1, 2, 5, 6, 27, 28, 29, 30] ?_
 refine ai fun _ k13 => ?_
 refine cd (fun hc14 => ?_) (fun hc14 => ?_)
 ·(try simp only [zB, reduceCtorEq] at hc14)
  refine ay ?_
  apply k13; clear k13; refine kp [1, 2, 5, 6, 27, 28, 29, 30] ?_
  refine ai fun _ k15 => ?_
  refine aA ?_
  refine ai fun _ k16 => ?_
  refine ak hP hN rfl ?_
  iterate 5 (refine aj rfl fun _ k0 => ?_; simp only [zO, zT, acs, reduceCtorEq, aa, V, ad, ag, af, ae, Mly.av]; (repeat refine an ?_); (try refine .inl ?_); apply k0; clear k0; simp only [zP, V])
  refine am ?_
  apply k16; clear k16; refine kp [1, 2, 5, 6, 7, 8, 27, 28, 29, 30] ?_
  have hx := hR.at_ (i := k) (by omega); have hnl := kv m.nx.length m.reach k
  refine ak hP hN rfl ?_
  iterate 5 (refine aj rfl fun _ k0 => ?_; simp only [zO, zT, acs, reduceCtorEq, aa, V, ad, ag, af, ae, Mly.av]; (repeat refine an ?_); (try refine .inl ?_); apply k0; clear k0; simp only [zP, V])
  refine am ?_
  apply k15; clear k15; refine kp [1, 2, 5, 6, 7, 8, 27, 28, 29, 30] ?_
  refine ak hP hN rfl ?_
  iterate 2 (refine aj rfl fun _ k0 => ?_; simp only [zO, zT, acs, reduceCtorEq, aa, V, ad, ag, af, ae, Mly.av]; (repeat refine an ?_); (try refine .inl ?_); apply k0; clear k0; simp only [zP, V])
  refine am ?_
  refine ⟨_, _, ?_, ax [1, 2, 5, 6, 27, 28, 29], k + 1, by omega, rfl, rfl⟩
  · omega
 (try simp only [zB, reduceCtorEq] at hc14)
 refine aV ?_
 apply k9; clear k9; refine kp [1, 2, 5, 6, 27, 28, 29, 30] ?_
 refine ai fun _ k17 => ?_
 refine ak hP hN rfl ?_
 iterate 5 (refine aj rfl fun _ k0 => ?_; simp only [zO, zT, acs, reduceCtorEq, aa, V, ad, ag, af, ae, Mly.av]; (repeat refine an ?_); (try refine .inl ?_); apply k0; clear k0; simp only [zP, V])
 refine am ?_
 apply k17; clear k17; refine kp [1, 2, 5, 6, 9, 27, 28, 29, 30] ?_
 refine ai fun _ k18 => ?_
 refine ai fun _ k19 => ?_
 refine ak hP hN rfl ?_
 iterate 3 (refine aj rfl fun _ k0 => ?_; simp only [zO, zT, acs, reduceCtorEq, aa, V, ad, ag, af, ae, Mly.av]; (repeat refine an ?_); (try refine .inl ?_); apply k0; clear k0; simp only [zP, V])
 refine am ?_
 apply k19; clear k19; refine kp [1, 2, 5, 6, 9, 27, 28, 29, 30, 42, 43, 44] ?_
 refine aA ?_
 refine eE 3 2 (.list (.int .i64)) 41 (by decide) rfl rfl ?_; simp only [zS, au, aG, aM, b6, Nat.zero_add, V]
 refine eE 3 3 (.list (.int .i64)) 41 (by decide) rfl rfl ?_; simp only [zS, au, aG, aM, b6, Nat.zero_add, V]
 have hkl : k = m.reach.length := by omega
 refine aY (fun n20 s20 => ∃ (k : Nat) (v : Nat), (k ≤ m.reach.length) ∧ n20 = m.reach.length - k ∧ s20 = { env := [(1, .one (.ptr 0 0 0 0)), (2, .one (.ptr 1 0 0 0)), (6, .one (.row 2 0)), (9, .one (.ptr 3 0 0 0)), (42, .one (.list (.int .i64) m.reach)), (43, .one (.int .i64 (m.reach.length : Int))), (44, .one (.int .i64 (k : Int)))], L := [.vars 24 [.int .i64 m.inp, .int .i64 m.st, .list (.list (.int .i64)) m.nx, .list (.list (.int .i64)) m.ot], .vars 24 [.int .i64 0, .int .i64 0, .nils, .nils], .row (.int .i64) 3 0 m.num, .vars 24 [.int .i64 m.inp, .int .i64 0, .row 4 v, .row 5 v], .row (.list (.int .i64)) 41 v (m.tnx.take k), .row (.list (.int .i64)) 41 v (m.tot.take k)] }) ?_ ?_
 ·refine ⟨_, _, ax [1, 2, 6, 9, 42, 43, 44], 0, 0, Nat.zero_le _, rfl, ?_⟩
  rw [hkl]; rfl
 rintro n20 s20 ⟨k, v, hk2, rfl, rfl⟩
 refine ai fun _ k21 => ?_
 refine ak hP hN rfl ?_
 (refine aj rfl fun _ k0 => ?_; simp only [zO, zT, acs, reduceCtorEq, aa, V, ad, ag, af, ae, Mly.av]; (repeat refine an ?_); (try refine .inl ?_); apply k0; clear k0; simp only [zP, V])
 refine am ?_
 apply k21; clear k21; refine kp [1, 2, 6, 9, 42, 43, 44, 45] ?_
 refine ai fun _ k22 => ?_
 refine cd (fun hc23 => ?_) (fun hc23 => ?_)
 ·(try simp only [zB, reduceCtorEq] at hc23)
  refine ay ?_
  apply k22; clear k22; refine kp [1, 2, 6, 9, 42, 43, 44, 45] ?_
  refine ai fun _ k24 => ?_
  refine aA ?_
  refine ai fun _ k25 => ?_
  have hx := hR.at_ (i := k) (by omega)
  refine ak hP hN rfl ?_
  iterate 3 (refine aj rfl fun _ k0 => ?_; simp only [zO, zT, acs, reduceCtorEq, aa, V, ad, ag, af, ae, Mly.av]; (repeat refine an ?_); (try refine .inl ?_); apply k0; clear k0; simp only [zP, V])
  refine am ?_
  apply k25; clear k25; refine kp [1, 2, 6, 9, 11, 42, 43, 44, 45] ?_
  refine ai fun _ k26 => ?_
  have hrow : ((m.row (m.reach.getD k 0)).length : Int) = m.inp := hm.rl (m.reach.getD k 0).toNat (by omega); have hrot := hm.ql (m.reach.getD k 0).toNat (by omega)
  refine ak hP hN rfl ?_
  iterate 2 (refine aj rfl fun _ k0 => ?_; simp only [zO, zT, acs, reduceCtorEq, aa, V, ad, ag, af, ae, Mly.av]; (repeat refine an ?_); (try refine .inl ?_); apply k0; clear k0; simp only [zP, V])
  (refine aj rfl fun _ k0 => ?_; simp only [zE, op1, ev, lkp, cY, bK, bM, d7, Nat.mul_one, bS, cL, acs, Ty.dflt, zG, bZ, cQ, br, Ty.size, reduceCtorEq, aa, V, ad, ag, af, ae, Try.el41, Try.st24, Try.td24, Try.td3, Try.td41, Mly.av]; (repeat refine an ?_); (try refine .inl ?_); apply k0; clear k0; simp only [zP, V])
  (refine aj rfl fun _ k0 => ?_; simp only [zO, zT, acs, reduceCtorEq, aa, V, ad, ag, af, ae, Mly.av]; (repeat refine an ?_); (try refine .inl ?_); apply k0; clear k0; simp only [zP, V])
  refine am ?_
  apply k26; clear k26; refine kp [1, 2, 6, 9, 11, 12, 42, 43, 44, 45] ?_
  refine ai fun _ k27 => ?_
  refine ai fun _ k28 => ?_
  refine ak hP hN rfl ?_
  iterate 7 (refine aj rfl fun _ k0 => ?_; simp only [zO, zT, acs, reduceCtorEq, aa, V, ad, ag, af, ae, Mly.av]; (repeat refine an ?_); (try refine .inl ?_); apply k0; clear k0; simp only [zP, V])
  refine am ?_
  apply k28; clear k28; refine kp [1, 2, 6, 9, 11, 12, 42, 43, 44, 45, 55, 56, 57] ?_
  refine aA ?_
  refine aY (fun n29 s29 => ∃ (j : Nat), (j ≤ (m.row (m.reach.getD k 0)).length) ∧ n29 = (m.row (m.reach.getD k 0)).length - j ∧ s29 = { env := [(1, .one (.ptr 0 0 0 0)), (2, .one (.ptr 1 0 0 0)), (6, .one (.row 2 0)), (9, .one (.ptr 3 0 0 0)), (11, .one (.int .i64 (m.reach.getD k 0))), (12, .one (.row 6 0)), (42, .one (.list (.int .i64) m.reach)), (43, .one (.int .i64 (m.reach.length : Int))), (44, .one (.int .i64 (k : Int))), (55, .one (.list (.int .i64) (m.row (m.reach.getD k 0)))), (56, .one (.int .i64 ((m.row (m.reach.getD k 0)).length : Int))), (57, .one (.int .i64 (j : Int)))], L := [.vars 24 [.int .i64 m.inp, .int .i64 m.st, .list (.list (.int .i64)) m.nx, .list (.list (.int .i64)) m.ot], .vars 24 [.int .i64 0, .int .i64 0, .nils, .nils], .row (.int .i64) 3 0 m.num, .vars 24 [.int .i64 m.inp, .int .i64 0, .row 4 v, .row 5 v], .row (.list (.int .i64)) 41 v (m.tnx.take k), .row (.list (.int .i64)) 41 v (m.tot.take k), .row (.int .i64) 3 0 (hS m.num (m.row (m.reach.getD k 0)) j)] }) ?_ ?_
  ·refine ⟨_, _, ax [1, 2, 6, 9, 11, 12, 42, 43, 44, 55, 56, 57], 0, Nat.zero_le _, rfl, ?_⟩
   rw [u9, show (m.row (m.reach.getD k 0)).length = m.inp.toNat by omega]; rfl
  rintro n29 s29 ⟨j, hj, rfl, rfl⟩
  refine ai fun _ k30 => ?_
  refine ak hP hN rfl ?_
  (refine aj rfl fun _ k0 => ?_; simp only [zO, zT, acs, reduceCtorEq, aa, V, ad, ag, af, ae, Mly.av]; (repeat refine an ?_); (try refine .inl ?_); apply k0; clear k0; simp only [zP, V])
  refine am ?_
  apply k30; clear k30; refine kp [1, 2, 6, 9, 11, 12, 42, 43, 44, 55, 56, 57, 58] ?_
  refine ai fun _ k31 => ?_
  refine cd (fun hc32 => ?_) (fun hc32 => ?_)
  ·(try simp only [zB, reduceCtorEq] at hc32)
   refine ay ?_
   apply k31; clear k31; refine kp [1, 2, 6, 9, 11, 12, 42, 43, 44, 55, 56, 57, 58] ?_
   refine ai fun _ k33 => ?_
   refine aA ?_
   refine ai fun _ k34 => ?_
   refine ak hP hN rfl ?_
   iterate 5 (refine aj rfl fun _ k0 => ?_; simp only [zO, zT, acs, reduceCtorEq, aa, V, ad, ag, af, ae, Mly.av]; (repeat refine an ?_); (try refine .inl ?_); apply k0; clear k0; simp only [zP, V])
   refine am ?_
   apply k34; clear k34; refine kp [1, 2, 6, 9, 11, 12, 13, 14, 42, 43, 44, 55, 56, 57, 58] ?_
   have ht := gF hm hx.1 hx.2 ((m.row (m.reach.getD k 0)).getD j 0) (bl (by omega)); have hnl : m.num.length = m.nx.length := kv _ _ _; have hnf := vh m.num (m.row (m.reach.getD k 0)) hj
   refine ak hP hN rfl ?_
   iterate 8 (refine aj rfl fun _ k0 => ?_; simp only [zO, zT, acs, reduceCtorEq, aa, V, ad, ag, af, ae, Mly.av]; (repeat refine an ?_); (try refine .inl ?_); apply k0; clear k0; simp only [zP, V])
   refine am ?_
   apply k33; clear k33; refine kp [1, 2, 6, 9, 11, 12, 13, 14, 42, 43, 44, 55, 56, 57, 58] ?_
   refine ak hP hN rfl ?_
   iterate 2 (refine aj rfl fun _ k0 => ?_; simp only [zO, zT, acs, reduceCtorEq, aa, V, ad, ag, af, ae, Mly.av]; (repeat refine an ?_); (try refine .inl ?_); apply k0; clear k0; simp only [zP, V])
   refine am ?_
   refine ⟨_, _, ?_, ax [1, 2, 6, 9, 11, 12, 42, 43, 44, 55, 56, 57], j + 1, by omega, rfl, ?_⟩
   · omega
   · rw [← vH _ _ (by omega)]; rfl
  (try simp only [zB, reduceCtorEq] at hc32)
  refine aV ?_
  apply k27; clear k27; refine kp [1, 2, 6, 9, 11, 12, 42, 43, 44, 55, 56, 57, 58] ?_
  refine ai fun _ k35 => ?_
  refine cq 6 rfl ?_; simp only [aH, bh, zS, aa, and_self, and_true, true_and, and_false, false_and, if_true, if_false, eq_self, reduceCtorEq, Nat.one_ne_zero, Nat.zero_ne_one]
  have htl : (m.tnx.take k).length = k := by simp [Mly.tnx]; omega
  have hol2 : (m.tot.take k).length = k := by simp [Mly.tot]; omega
  refine ak hP hN rfl ?_
  iterate 7 (refine aj rfl fun _ k0 => ?_; simp only [zO, zT, acs, reduceCtorEq, aa, V, ad, ag, af, ae, Mly.av]; (repeat refine an ?_); (try refine .inl ?_); apply k0; clear k0; simp only [zP, V])
  refine am ?_
  apply k35; clear k35; refine kp [1, 2, 6, 9, 11, 12, 42, 43, 44, 55, 56, 57, 58] ?_
  refine bn hP hN Try.mixed rfl ?_
  iterate 7 (refine aj rfl fun _ k0 => ?_; simp only [zO, zT, acs, reduceCtorEq, aa, V, ad, ag, af, ae, Mly.av]; (repeat refine an ?_); (try refine .inl ?_); apply k0; clear k0; simp only [zP, V])
  refine aj rfl fun _ k0 => ?_
  refine aK (h := aE (tO (m.ot.getD (m.reach.getD k 0).toNat []) (by omega))) rfl rfl (by first | exact rfl | (simp only [ev, zP, aa, V]; exact rfl)) (by simp only [zV, acs, reduceCtorEq, aa, V, ad, ag, af, ae, Mly.av]) ?_
  apply k0; clear k0; simp only [zP, V]
  iterate 4 (refine aj rfl fun _ k0 => ?_; simp only [zO, zT, acs, reduceCtorEq, aa, V, ad, ag, af, ae, Mly.av]; (repeat refine an ?_); (try refine .inl ?_); apply k0; clear k0; simp only [zP, V])
  refine am ?_
  refine ⟨by kernel_rfl, ?_⟩
  apply k24; clear k24; refine kp [1, 2, 6, 9, 11, 12, 42, 43, 44, 55, 56, 57, 58] ?_
  refine cP (n := 6) (L1 := [_, _, _, _, _, _]) rfl rfl (by rw [hB]; decide) rfl rfl ?_
  refine ak hP hN rfl ?_
  iterate 2 (refine aj rfl fun _ k0 => ?_; simp only [zO, zT, acs, reduceCtorEq, aa, V, ad, ag, af, ae, Mly.av]; (repeat refine an ?_); (try refine .inl ?_); apply k0; clear k0; simp only [zP, V])
  refine am ?_
  have hjr : j = (m.row (m.reach.getD k 0)).length := by omega
  refine ⟨_, _, ?_, ax [1, 2, 6, 9, 42, 43, 44], k + 1, v + 1, by omega, rfl, ?_⟩
  · omega
  · rw [show m.tnx.take (k + 1) = m.tnx.take k ++ [hS m.num (m.row (m.reach.getD k 0)) j] by rw [hjr, vc]; exact jP _ 0 (by omega), show m.tot.take (k + 1) = m.tot.take k ++ [m.ot.getD (m.reach.getD k 0).toNat []] from jP _ 0 (by omega)]; rfl
 (try simp only [zB, reduceCtorEq] at hc23)
 refine aV ?_
 apply k18; clear k18; refine kp [1, 2, 6, 9, 42, 43, 44, 45] ?_
 refine ai fun _ k36 => ?_
 refine ak hP hN rfl ?_
 iterate 3 (refine aj rfl fun _ k0 => ?_; simp only [zO, zT, acs, reduceCtorEq, aa, V, ad, ag, af, ae, Mly.av]; (repeat refine an ?_); (try refine .inl ?_); apply k0; clear k0; simp only [zP, V])
 refine am ?_
 apply k36; clear k36; refine kp [1, 2, 3, 6, 9, 42, 43, 44, 45] ?_
 refine aF ?_
 refine ⟨nr, _, rfl, ?_⟩; simp only [zF, zP, aa, V, Mly.av]
 first
 | (rw [rn ‹¬aR m = 0›]
    exact cg ⟨dq ⟨.refl _, .refl _, bq rfl, bq rfl, trivial⟩, aU (.refl _), trivial⟩)
 | (rw [pj hv, hv]
    have hk3 : k = m.reach.length := by omega
    have e1 : m.tnx.take k = m.tnx := List.take_of_length_le (by simp [Mly.tnx]; omega)
    have e2 : m.tot.take k = m.tot := List.take_of_length_le (by simp [Mly.tot]; omega)
    rw [e1, e2]
    exact VLE.of_eq (by simp [fzC]; rfl))
set_option maxHeartbeats 1000000 in
theorem AJ (m : Mly) : bP Try.prog 70 [m.av] (.tup [m.mres.av, .one (.int .i64 (aR m))]) := by
 refine aS Try.func70 rfl (by kernel_rfl) (Nat.le_of_ble_eq_true rfl) rfl fun C hP hN hB => ?_
 replace hN : C.N = 84 := hN
 simp only [bf, V]
 refine ai fun _ k1 => ?_
 refine ak hP hN rfl ?_
 iterate 3 (refine aj rfl fun _ k0 => ?_; simp only [zO, zT, acs, reduceCtorEq, aa, V, ad, ag, af, ae, Mly.av]; (repeat refine an ?_); (try refine .inl ?_); apply k0; clear k0; simp only [zP, V])
 refine am ?_
 apply k1; clear k1; refine kp [0, 1, 2, 3] ?_
 refine ai fun _ k2 => ?_
 refine ak hP hN rfl ?_
 (refine aj rfl fun _ k0 => ?_; simp only [zO, zT, acs, reduceCtorEq, aa, V, ad, ag, af, ae, Mly.av]; (repeat refine an ?_); (try refine .inl ?_); apply k0; clear k0; simp only [zP, V])
 refine aj rfl fun _ k0 => ?_
 refine aK (h := aE (Aw m)) rfl rfl (by first | exact rfl | (simp only [ev, zP, aa, V]; exact rfl)) (by simp only [zV, acs, reduceCtorEq, aa, V, ad, ag, af, ae, Mly.av]) ?_
 apply k0; clear k0; simp only [zP, V]
 iterate 6 (refine aj rfl fun _ k0 => ?_; simp only [zO, zT, acs, reduceCtorEq, aa, V, ad, ag, af, ae, Mly.av]; (repeat refine an ?_); (try refine .inl ?_); apply k0; clear k0; simp only [zP, V])
 refine am ?_
 apply k2; clear k2; refine kp [0, 1, 2, 3, 4, 5] ?_
 refine ai fun _ k3 => ?_
 refine ai fun _ k4 => ?_
 refine ak hP hN rfl ?_
 iterate 2 (refine aj rfl fun _ k0 => ?_; simp only [zO, zT, acs, reduceCtorEq, aa, V, ad, ag, af, ae, Mly.av]; (repeat refine an ?_); (try refine .inl ?_); apply k0; clear k0; simp only [zP, V])
 refine am ?_
 apply k4; clear k4; refine kp [0, 1, 2, 3, 4, 5, 19] ?_
 refine cd (fun hc5 => ?_) (fun hc5 => ?_)
 ·(try simp only [zB, reduceCtorEq] at hc5)
  refine ai fun _ k6 => ?_
  refine ak hP hN rfl ?_
  iterate 4 (refine aj rfl fun _ k0 => ?_; simp only [zO, zT, acs, reduceCtorEq, aa, V, ad, ag, af, ae, Mly.av]; (repeat refine an ?_); (try refine .inl ?_); apply k0; clear k0; simp only [zP, V])
  refine am ?_
  apply k6; clear k6; refine kp [0, 1, 2, 3, 4, 5, 19] ?_
  refine aF ?_
  refine ⟨nr, _, rfl, ?_⟩; simp only [zF, zP, aa, V, Mly.av]
  first
  | (rw [mA ‹¬aR m = 0›]; exact cg ⟨dq ⟨.refl _, .refl _, bq rfl, bq rfl, trivial⟩, aU (.refl _), trivial⟩)
  | (have hk3 : k = m.trim.nx.length := by omega
     subst hk3
     rw [ua hv, hv]
     exact VLE.of_eq (by simp [fzC]; rfl))
 (try simp only [zB, reduceCtorEq] at hc5)
 have hv : aR m = 0 := by omega
 have hm := eO hv; have ht : MOK m.trim := by rw [wt hv]; exact rd hm
 have hvt := dk ht; have hst := f0 ht; have hel := hst.len; have hn2 := ht.n2; have hi1 := ht.i1; have hi2 := ht.i2; have hol := ht.ol; have hn1 := ht.n1
 refine ay ?_
 apply k3; clear k3; refine kp [0, 1, 2, 3, 4, 5, 19] ?_
 refine ai fun _ k7 => ?_
 refine ak hP hN rfl ?_
 (refine aj rfl fun _ k0 => ?_; simp only [zO, zT, acs, reduceCtorEq, aa, V, ad, ag, af, ae, Mly.av]; (repeat refine an ?_); (try refine .inl ?_); apply k0; clear k0; simp only [zP, V])
 refine aj rfl fun _ k0 => ?_
 refine aK (h := aE (uU m.trim hvt)) rfl rfl (by first | exact rfl | (simp only [ev, zP, aa, V]; exact rfl)) (by simp only [zV, acs, reduceCtorEq, aa, V, ad, ag, af, ae, Mly.av]) ?_
 apply k0; clear k0; simp only [zP, V]
 iterate 5 (refine aj rfl fun _ k0 => ?_; simp only [zO, zT, acs, reduceCtorEq, aa, V, ad, ag, af, ae, Mly.av]; (repeat refine an ?_); (try refine .inl ?_); apply k0; clear k0; simp only [zP, V])
 refine am ?_
 apply k7; clear k7; refine kp [0, 1, 2, 3, 4, 5, 6, 19] ?_
 refine ai fun _ k8 => ?_
 refine ai fun _ k9 => ?_
 refine ak hP hN rfl ?_
 iterate 2 (refine aj rfl fun _ k0 => ?_; simp only [zO, zT, acs, reduceCtorEq, aa, V, ad, ag, af, ae, Mly.av]; (repeat refine an ?_); (try refine .inl ?_); apply k0; clear k0; simp only [zP, V])
 refine am ?_
 apply k9; clear k9; refine kp [0, 1, 2, 3, 4, 5, 6, 19, 28] ?_
 refine cd (fun hc10 => ?_) (fun hc10 => ?_)
 · exfalso; (try simp only [zB, reduceCtorEq] at hc10); all_goals (first | (cases hc10; done) | omega | (simp at hc10; done) | (simp_all; done))
 (try simp only [zB, reduceCtorEq] at hc10)
 refine ay ?_
 apply k8; clear k8; refine kp [0, 1, 2, 3, 4, 5, 6, 19, 28] ?_
 refine ai fun _ k11 => ?_
 refine ak hP hN rfl ?_
 iterate 5 (refine aj rfl fun _ k0 => ?_; simp only [zO, zT, acs, reduceCtorEq, aa, V, ad, ag, af, ae, Mly.av]; (repeat refine an ?_); (try refine .inl ?_); apply k0; clear k0; simp only [zP, V])
 refine am ?_
 apply k11; clear k11; refine kp [0, 1, 2, 3, 4, 5, 6, 7, 19, 28] ?_
 refine ai fun _ k12 => ?_
 refine ai fun _ k13 => ?_
 refine ak hP hN rfl ?_
 iterate 3 (refine aj rfl fun _ k0 => ?_; simp only [zO, zT, acs, reduceCtorEq, aa, V, ad, ag, af, ae, Mly.av]; (repeat refine an ?_); (try refine .inl ?_); apply k0; clear k0; simp only [zP, V])
 refine am ?_
 apply k13; clear k13; refine kp [0, 1, 2, 3, 4, 5, 6, 7, 19, 28, 34, 35, 36] ?_
 refine aA ?_
 refine eE 3 2 (.list (.int .i64)) 41 (by decide) rfl rfl ?_; simp only [zS, au, aG, aM, b6, Nat.zero_add, V]
 refine eE 3 3 (.list (.int .i64)) 41 (by decide) rfl rfl ?_; simp only [zS, au, aG, aM, b6, Nat.zero_add, V]
 refine aY (fun n14 s14 => ∃ (k : Nat) (v : Nat), (k ≤ m.trim.nx.length) ∧ n14 = m.trim.nx.length - k ∧ s14 = { env := [(2, .one (.ptr 1 0 0 0)), (3, .one (.int .i64 0)), (4, .one (.ptr 2 0 0 0)), (6, .one (.list (.int .i64) m.trim.eqc)), (7, .one (.ptr 3 0 0 0)), (34, .one (.list (.int .i64) m.trim.eqc)), (35, .one (.int .i64 (m.trim.eqc.length : Int))), (36, .one (.int .i64 (k : Int)))], L := [.vars 24 [.int .i64 m.inp, .int .i64 m.st, .list (.list (.int .i64)) m.nx, .list (.list (.int .i64)) m.ot], .vars 24 [.int .i64 0, .int .i64 0, .nils, .nils], .vars 24 [.int .i64 m.trim.inp, .int .i64 m.trim.st, .list (.list (.int .i64)) m.trim.nx, .list (.list (.int .i64)) m.trim.ot], .vars 24 [.int .i64 m.trim.inp, .int .i64 0, .row 4 v, .row 5 v], .row (.list (.int .i64)) 41 v (m.trim.qN k), .row (.list (.int .i64)) 41 v (m.trim.qO k)] }) ?_ ?_
 ·refine ⟨_, _, ax [2, 3, 4, 6, 7, 34, 35, 36], 0, 0, Nat.zero_le _, rfl, rfl⟩
 rintro n14 s14 ⟨k, v, hk, rfl, rfl⟩
 refine ai fun _ k15 => ?_
 refine ak hP hN rfl ?_
 (refine aj rfl fun _ k0 => ?_; simp only [zO, zT, acs, reduceCtorEq, aa, V, ad, ag, af, ae, Mly.av]; (repeat refine an ?_); (try refine .inl ?_); apply k0; clear k0; simp only [zP, V])
 refine am ?_
 apply k15; clear k15; refine kp [2, 3, 4, 6, 7, 34, 35, 36, 37] ?_
 refine ai fun _ k16 => ?_
 refine cd (fun hc17 => ?_) (fun hc17 => ?_)
 ·(try simp only [zB, reduceCtorEq] at hc17)
  refine ay ?_
  apply k16; clear k16; refine kp [2, 3, 4, 6, 7, 34, 35, 36, 37] ?_
  refine ai fun _ k18 => ?_
  refine aA ?_
  refine ai fun _ k19 => ?_
  refine ak hP hN rfl ?_
  iterate 5 (refine aj rfl fun _ k0 => ?_; simp only [zO, zT, acs, reduceCtorEq, aa, V, ad, ag, af, ae, Mly.av]; (repeat refine an ?_); (try refine .inl ?_); apply k0; clear k0; simp only [zP, V])
  refine am ?_
  apply k19; clear k19; refine kp [2, 3, 4, 6, 7, 8, 9, 34, 35, 36, 37] ?_
  refine ai fun _ k20 => ?_
  refine ai fun _ k21 => ?_
  have hrp := (sr (gA ht) k (by omega)).len; have hql := Au m.trim k; have hqo := A3 m.trim k; have hcb := gA ht k (by omega); simp only [iq, Bool.or_eq_false_iff, decide_eq_false_iff_not] at hcb
  refine ak hP hN rfl ?_
  iterate 5 (refine aj rfl fun _ k0 => ?_; simp only [zO, zT, acs, reduceCtorEq, aa, V, ad, ag, af, ae, Mly.av]; (repeat refine an ?_); (try refine .inl ?_); apply k0; clear k0; simp only [zP, V])
  refine am ?_
  apply k21; clear k21; refine kp [2, 3, 4, 6, 7, 8, 9, 34, 35, 36, 37, 45] ?_
  refine cd (fun hc22 => ?_) (fun hc22 => ?_)
  ·(try simp only [zB, reduceCtorEq] at hc22)
   refine aV ?_
   apply k18; clear k18; refine kp [2, 3, 4, 6, 7, 8, 9, 34, 35, 36, 37, 45] ?_
   first | (refine cP (n := 7) (L1 := [_, _, _, _, _, _, _]) rfl rfl (by rw [hB]; decide) rfl rfl ?_; refine cP (n := 6) (L1 := [_, _, _, _, _, _]) rfl rfl (by rw [hB]; decide) rfl rfl ?_) | skip
   refine ak hP hN rfl ?_
   iterate 2 (refine aj rfl fun _ k0 => ?_; simp only [zO, zT, acs, reduceCtorEq, aa, V, ad, ag, af, ae, Mly.av]; (repeat refine an ?_); (try refine .inl ?_); apply k0; clear k0; simp only [zP, V])
   refine am ?_
   first
   | (have hnw : ¬ m.trim.eqc.getD k 0 = cN m.trim.eqc k := by omega
      refine ⟨_, _, ?_, ax [2, 3, 4, 6, 7, 34, 35, 36], k + 1, v, by omega, rfl, ?_⟩
      · omega
      · rw [(oa hnw).1, (oa hnw).2]; rfl)
   | (have hnw : m.trim.eqc.getD k 0 = cN m.trim.eqc k := by omega
      have hjr : j = (m.trim.nx.getD k []).length := by omega
      have htk : ((m.trim.nx.getD k []).take j).map m.trim.f = (m.trim.nx.getD k []).map m.trim.f := by rw [hjr, aI]
      refine ⟨_, _, ?_, ax [2, 3, 4, 6, 7, 34, 35, 36], k + 1, v + 1, by omega, rfl, ?_⟩
      · omega
      · rw [(o8 hnw).1, (o8 hnw).2, ← htk]; rfl)
  (try simp only [zB, reduceCtorEq] at hc22)
  refine ay ?_
  apply k20; clear k20; refine kp [2, 3, 4, 6, 7, 8, 9, 34, 35, 36, 37, 45] ?_
  refine ai fun _ k23 => ?_
  refine ak hP hN rfl ?_
  (refine aj rfl fun _ k0 => ?_; simp only [zO, zT, acs, reduceCtorEq, aa, V, ad, ag, af, ae, Mly.av]; (repeat refine an ?_); (try refine .inl ?_); apply k0; clear k0; simp only [zP, V])
  refine am ?_
  apply k23; clear k23; refine kp [2, 3, 4, 6, 7, 8, 9, 10, 34, 35, 36, 37, 45] ?_
  refine ai fun _ k24 => ?_
  refine ai fun _ k25 => ?_
  have hrl := ht.rl k (by omega); have hrq := ht.ql k (by omega)
  refine ak hP hN rfl ?_
  iterate 7 (refine aj rfl fun _ k0 => ?_; simp only [zO, zT, acs, reduceCtorEq, aa, V, ad, ag, af, ae, Mly.av]; (repeat refine an ?_); (try refine .inl ?_); apply k0; clear k0; simp only [zP, V])
  refine am ?_
  apply k25; clear k25; refine kp [2, 3, 4, 6, 7, 8, 9, 10, 34, 35, 36, 37, 45, 50, 51, 52] ?_
  refine aA ?_
  refine dZ 10 (.int .i64) 3 (by decide) rfl ?_; simp only [au, aG, aM, b6, Nat.zero_add, V]
  refine aY (fun n26 s26 => ∃ (j : Nat) (v2 : Nat), (j ≤ (m.trim.nx.getD k []).length) ∧ n26 = (m.trim.nx.getD k []).length - j ∧ s26 = { env := [(2, .one (.ptr 1 0 0 0)), (3, .one (.int .i64 0)), (4, .one (.ptr 2 0 0 0)), (6, .one (.list (.int .i64) m.trim.eqc)), (7, .one (.ptr 3 0 0 0)), (8, .one (.int .i64 (k : Int))), (9, .one (.int .i64 (m.trim.eqc.getD k 0))), (10, .one (.row 6 v2)), (34, .one (.list (.int .i64) m.trim.eqc)), (35, .one (.int .i64 (m.trim.eqc.length : Int))), (36, .one (.int .i64 (k : Int))), (50, .one (.list (.int .i64) (m.trim.nx.getD k []))), (51, .one (.int .i64 ((m.trim.nx.getD k []).length : Int))), (52, .one (.int .i64 (j : Int)))], L := [.vars 24 [.int .i64 m.inp, .int .i64 m.st, .list (.list (.int .i64)) m.nx, .list (.list (.int .i64)) m.ot], .vars 24 [.int .i64 0, .int .i64 0, .nils, .nils], .vars 24 [.int .i64 m.trim.inp, .int .i64 m.trim.st, .list (.list (.int .i64)) m.trim.nx, .list (.list (.int .i64)) m.trim.ot], .vars 24 [.int .i64 m.trim.inp, .int .i64 0, .row 4 v, .row 5 v], .row (.list (.int .i64)) 41 v (m.trim.qN k), .row (.list (.int .i64)) 41 v (m.trim.qO k), .row (.int .i64) 3 v2 (((m.trim.nx.getD k []).take j).map m.trim.f)] }) ?_ ?_
  ·refine ⟨_, _, ax [2, 3, 4, 6, 7, 8, 9, 10, 34, 35, 36, 50, 51, 52], 0, 0, Nat.zero_le _, rfl, rfl⟩
  rintro n26 s26 ⟨j, v2, hj, rfl, rfl⟩
  refine ai fun _ k27 => ?_
  refine ak hP hN rfl ?_
  (refine aj rfl fun _ k0 => ?_; simp only [zO, zT, acs, reduceCtorEq, aa, V, ad, ag, af, ae, Mly.av]; (repeat refine an ?_); (try refine .inl ?_); apply k0; clear k0; simp only [zP, V])
  refine am ?_
  apply k27; clear k27; refine kp [2, 3, 4, 6, 7, 8, 9, 10, 34, 35, 36, 50, 51, 52, 53] ?_
  refine ai fun _ k28 => ?_
  refine cd (fun hc29 => ?_) (fun hc29 => ?_)
  ·(try simp only [zB, reduceCtorEq] at hc29)
   refine ay ?_
   apply k28; clear k28; refine kp [2, 3, 4, 6, 7, 8, 9, 10, 34, 35, 36, 50, 51, 52, 53] ?_
   refine ai fun _ k30 => ?_
   refine aA ?_
   refine ai fun _ k31 => ?_
   refine ak hP hN rfl ?_
   iterate 3 (refine aj rfl fun _ k0 => ?_; simp only [zO, zT, acs, reduceCtorEq, aa, V, ad, ag, af, ae, Mly.av]; (repeat refine an ?_); (try refine .inl ?_); apply k0; clear k0; simp only [zP, V])
   refine am ?_
   apply k31; clear k31; refine kp [2, 3, 4, 6, 7, 8, 9, 10, 12, 34, 35, 36, 50, 51, 52, 53] ?_
   have hnr := ht.nr k j (by omega) (by omega)
   refine ak hP hN rfl ?_
   iterate 8 (refine aj rfl fun _ k0 => ?_; simp only [zO, zT, acs, reduceCtorEq, aa, V, ad, ag, af, ae, Mly.av, aD, List.length_take]; (repeat refine an ?_); (try refine .inl ?_); apply k0; clear k0; simp only [zP, V])
   refine am ?_
   apply k30; clear k30; refine kp [2, 3, 4, 6, 7, 8, 9, 10, 12, 34, 35, 36, 50, 51, 52, 53] ?_
   refine ak hP hN rfl ?_
   iterate 2 (refine aj rfl fun _ k0 => ?_; simp only [zO, zT, acs, reduceCtorEq, aa, V, ad, ag, af, ae, Mly.av]; (repeat refine an ?_); (try refine .inl ?_); apply k0; clear k0; simp only [zP, V])
   refine am ?_
   refine ⟨_, _, ?_, ax [2, 3, 4, 6, 7, 8, 9, 10, 34, 35, 36, 50, 51, 52], j + 1, v2 + 1, by omega, rfl, ?_⟩
   · omega
   · rw [nW m.trim.f (by omega)]; rfl
  (try simp only [zB, reduceCtorEq] at hc29)
  refine aV ?_
  apply k24; clear k24; refine kp [2, 3, 4, 6, 7, 8, 9, 10, 34, 35, 36, 50, 51, 52, 53] ?_
  refine ai fun _ k32 => ?_
  refine cq 6 rfl ?_; simp only [aH, bh, zS, aa, and_self, and_true, true_and, and_false, false_and, if_true, if_false, eq_self, reduceCtorEq, Nat.one_ne_zero, Nat.zero_ne_one]
  have hrle := yN m.trim.eqc k
  refine ak hP hN rfl ?_
  iterate 7 (refine aj rfl fun _ k0 => ?_; simp only [zO, zT, acs, reduceCtorEq, aa, V, ad, ag, af, ae, Mly.av]; (repeat refine an ?_); (try refine .inl ?_); apply k0; clear k0; simp only [zP, V])
  refine am ?_
  apply k32; clear k32; refine kp [2, 3, 4, 6, 7, 8, 9, 10, 34, 35, 36, 50, 51, 52, 53] ?_
  refine jX ?_; simp only [aM, List.append_assoc, b6]
  refine bn hP hN Try.mixed rfl ?_
  iterate 2 (refine aj rfl fun _ k0 => ?_; simp only [zO, zT, acs, reduceCtorEq, aa, V, ad, ag, af, ae, Mly.av]; (repeat refine an ?_); (try refine .inl ?_); apply k0; clear k0; simp only [zP, V])
  (refine aj rfl fun _ k0 => ?_; simp only [zO, zT, acs, reduceCtorEq, aa, V, ad, ag, af, ae, Mly.av]; (repeat refine an ?_); refine Or.inr (Or.inr (Or.inl ⟨7, by exact rfl, ?_⟩)); refine k0 _ ?_; clear k0; simp only [zP, V])
  iterate 5 (refine aj rfl fun _ k0 => ?_; simp only [zO, zT, acs, reduceCtorEq, aa, V, ad, ag, af, ae, Mly.av]; (repeat refine an ?_); (try refine .inl ?_); apply k0; clear k0; simp only [zP, V])
  (refine aj rfl fun _ k0 => ?_; simp only [zO, zT, acs, reduceCtorEq, aa, V, ad, ag, af, ae, Mly.av]; (repeat refine an ?_); refine Or.inr (k0 _ ?_); clear k0; simp only [zP, V])
  iterate 4 (refine aj rfl fun _ k0 => ?_; simp only [zO, zT, acs, reduceCtorEq, aa, V, ad, ag, af, ae, Mly.av]; (repeat refine an ?_); (try refine .inl ?_); apply k0; clear k0; simp only [zP, V])
  refine am ?_
  refine ⟨by kernel_rfl, ?_⟩
  apply k18; clear k18; refine kp [2, 3, 4, 6, 7, 8, 9, 10, 34, 35, 36, 50, 51, 52, 53] ?_
  first | (refine cP (n := 7) (L1 := [_, _, _, _, _, _, _]) rfl rfl (by rw [hB]; decide) rfl rfl ?_; refine cP (n := 6) (L1 := [_, _, _, _, _, _]) rfl rfl (by rw [hB]; decide) rfl rfl ?_) | skip
  refine ak hP hN rfl ?_
  iterate 2 (refine aj rfl fun _ k0 => ?_; simp only [zO, zT, acs, reduceCtorEq, aa, V, ad, ag, af, ae, Mly.av]; (repeat refine an ?_); (try refine .inl ?_); apply k0; clear k0; simp only [zP, V])
  refine am ?_
  first
  | (have hnw : ¬ m.trim.eqc.getD k 0 = cN m.trim.eqc k := by omega
     refine ⟨_, _, ?_, ax [2, 3, 4, 6, 7, 34, 35, 36], k + 1, v, by omega, rfl, ?_⟩
     · omega
     · rw [(oa hnw).1, (oa hnw).2]; rfl)
  | (have hnw : m.trim.eqc.getD k 0 = cN m.trim.eqc k := by omega
     have hjr : j = (m.trim.nx.getD k []).length := by omega
     have htk : ((m.trim.nx.getD k []).take j).map m.trim.f = (m.trim.nx.getD k []).map m.trim.f := by rw [hjr, aI]
     refine ⟨_, _, ?_, ax [2, 3, 4, 6, 7, 34, 35, 36], k + 1, v + 1, by omega, rfl, ?_⟩
     · omega
     · rw [(o8 hnw).1, (o8 hnw).2, ← htk]; rfl)
 (try simp only [zB, reduceCtorEq] at hc17)
 refine aV ?_
 apply k12; clear k12; refine kp [2, 3, 4, 6, 7, 34, 35, 36, 37] ?_
 refine ai fun _ k33 => ?_
 refine ak hP hN rfl ?_
 iterate 3 (refine aj rfl fun _ k0 => ?_; simp only [zO, zT, acs, reduceCtorEq, aa, V, ad, ag, af, ae, Mly.av]; (repeat refine an ?_); (try refine .inl ?_); apply k0; clear k0; simp only [zP, V])
 refine am ?_
 apply k33; clear k33; refine kp [2, 3, 4, 6, 7, 34, 35, 36, 37] ?_
 refine aF ?_
 refine ⟨nr, _, rfl, ?_⟩; simp only [zF, zP, aa, V, Mly.av]
 first
 | (rw [mA ‹¬aR m = 0›]; exact cg ⟨dq ⟨.refl _, .refl _, bq rfl, bq rfl, trivial⟩, aU (.refl _), trivial⟩)
 | (have hk3 : k = m.trim.nx.length := by omega
    subst hk3
    rw [ua hv, hv]
    exact VLE.of_eq (by simp [fzC]; rfl))
theorem xE (m : Mly) : bP Try.prog 50 [m.av] (.one (.bool (mnB m))) := by
 refine aS Try.func50 rfl (by kernel_rfl) (Nat.le_of_ble_eq_true rfl) rfl fun C hP hN hB => ?_
 replace hN : C.N = 33 := hN
 simp only [bf, V]
 refine ai fun _ k1 => ?_
 refine ak hP hN rfl ?_
 iterate 2 (refine aj rfl fun _ k0 => ?_; simp only [zO, zT, acs, reduceCtorEq, aa, V, ad, ag, af, ae, Mly.av]; (repeat refine an ?_); (try refine .inl ?_); apply k0; clear k0; simp only [zP, V])
 refine am ?_
 apply k1; clear k1; refine kp [0, 1, 2] ?_
 refine ai fun _ k2 => ?_
 refine ai fun _ k3 => ?_
 refine bn hP hN Try.mixed rfl ?_
 (refine aj rfl fun _ k0 => ?_; simp only [zO, zT, acs, reduceCtorEq, aa, V, ad, ag, af, ae, Mly.av]; (repeat refine an ?_); (try refine .inl ?_); apply k0; clear k0; simp only [zP, V])
 refine aj rfl fun _ k0 => ?_
 refine aK (h := aE (jA m)) rfl rfl (by first | exact rfl | (simp only [ev, zP, aa, V]; exact rfl)) (by simp only [zV, acs, reduceCtorEq, aa, V, ad, ag, af, ae, Mly.av]) ?_
 apply k0; clear k0; simp only [zP, V]
 iterate 2 (refine aj rfl fun _ k0 => ?_; simp only [zO, zT, acs, reduceCtorEq, aa, V, ad, ag, af, ae, Mly.av]; (repeat refine an ?_); (try refine .inl ?_); apply k0; clear k0; simp only [zP, V])
 refine' aO (want := false) 7 rfl (m := 8) (by simp only [zP, aa, V]; exact rfl) (by kernel_rfl) rfl rfl rfl rfl rfl (fun hg4 => ?a4) ?b4 ?c4
 case a4 =>
  have hq4 := hg4; (try simp only [zB, reduceCtorEq] at hg4); simp only [zE]
  (refine bg rfl fun _ k0 => ?_; simp only [zO, zT, acs, reduceCtorEq, aa, V, ad, ag, af, ae, Mly.av]; (repeat refine an ?_); (try refine .inl ?_); apply k0; clear k0; simp only [zP, V])
  refine bg rfl fun _ k0 => ?_
  refine aK (h := aE (uO m)) rfl rfl (by first | exact rfl | (simp only [ev, zP, aa, V]; exact rfl)) (by simp only [zV, acs, reduceCtorEq, aa, V, ad, ag, af, ae, Mly.av]) ?_
  apply k0; clear k0; simp only [zP, V]
  iterate 5 (refine bg rfl fun _ k0 => ?_; simp only [zO, zT, acs, reduceCtorEq, aa, V, ad, ag, af, ae, Mly.av]; (repeat refine an ?_); (try refine .inl ?_); apply k0; clear k0; simp only [zP, V])
  (refine aj rfl fun _ k0 => ?_; simp only [zO, zT, acs, reduceCtorEq, aa, V, ad, ag, af, ae, Mly.av]; (repeat refine an ?_); (try refine .inl ?_); apply k0; clear k0; simp only [zP, V])
  refine am ?_
  refine ⟨by simp only [zP, aa, V]; exact rfl, rfl, ?_, rfl⟩; (repeat refine aP rfl ?_); exact bo (by exact rfl) hq4
 case b4 => exact cr
 simp only [bb, aT]
 refine am ?_
 refine ⟨by kernel_rfl, ?_⟩
 apply k3; clear k3; refine kp [0, 1, 2, 16] ?_
 refine cd (fun hc5 => ?_) (fun hc5 => ?_)
 ·(try simp only [zB, reduceCtorEq] at hc5)
  have hno := AK (m := m) (by have h9 := hc5; omega)
  refine ai fun _ k6 => ?_
  refine ak hP hN rfl ?_
  (refine aj rfl fun _ k0 => ?_; simp only [zO, zT, acs, reduceCtorEq, aa, V, ad, ag, af, ae, Mly.av]; (repeat refine an ?_); (try refine .inl ?_); apply k0; clear k0; simp only [zP, V])
  refine am ?_
  apply k6; clear k6; refine kp [0, 1, 2, 16] ?_
  refine aF ?_
  refine ⟨nr, _, rfl, ?_⟩; simp only [zF, zP, aa, V, Mly.av]
  refine VLE.of_eq ?_
  first | (rw [hno]; done) | (rw [hno]; rfl) | (rw [hnb, hyes.1, he9]; rfl)
 (try simp only [zB, reduceCtorEq] at hc5)
 have hyes : aR m = 0 ∧ m.reach.length = m.nx.length := by have h9 := hc5; omega
 have hnb := AX hyes.1 hyes.2
 have he9 : decide ((m.mres.nx.length : Int) = (m.nx.length : Int)) = decide (m.mres.nx.length = m.nx.length) := by rw [decide_eq_decide]; omega
 refine ay ?_
 apply k2; clear k2; refine kp [0, 1, 2, 16] ?_
 refine ai fun _ k7 => ?_
 refine ak hP hN rfl ?_
 (refine aj rfl fun _ k0 => ?_; simp only [zO, zT, acs, reduceCtorEq, aa, V, ad, ag, af, ae, Mly.av]; (repeat refine an ?_); (try refine .inl ?_); apply k0; clear k0; simp only [zP, V])
 refine aj rfl fun _ k0 => ?_
 refine aK (h := aE (AJ m)) rfl rfl (by first | exact rfl | (simp only [ev, zP, aa, V]; exact rfl)) (by simp only [zV, acs, reduceCtorEq, aa, V, ad, ag, af, ae, Mly.av]) ?_
 apply k0; clear k0; simp only [zP, V]
 iterate 6 (refine aj rfl fun _ k0 => ?_; simp only [zO, zT, acs, reduceCtorEq, aa, V, ad, ag, af, ae, Mly.av]; (repeat refine an ?_); (try refine .inl ?_); apply k0; clear k0; simp only [zP, V])
 refine am ?_
 apply k7; clear k7; refine kp [0, 1, 2, 3, 4, 16] ?_
 refine ai fun _ k8 => ?_
 refine ak hP hN rfl ?_
 iterate 3 (refine aj rfl fun _ k0 => ?_; simp only [zO, zT, acs, reduceCtorEq, aa, V, ad, ag, af, ae, Mly.av]; (repeat refine an ?_); (try refine .inl ?_); apply k0; clear k0; simp only [zP, V])
 refine' aO (want := true) 7 rfl (m := 24) (by simp only [zP, aa, V]; exact rfl) (by kernel_rfl) rfl rfl rfl rfl rfl (fun hg9 => ?a9) ?b9 ?c9
 case a9 =>
  have hq9 := hg9; (try simp only [zB, reduceCtorEq] at hg9); simp only [zE]
  iterate 7 (refine bg rfl fun _ k0 => ?_; simp only [zO, zT, acs, reduceCtorEq, aa, V, ad, ag, af, ae, Mly.av]; (repeat refine an ?_); (try refine .inl ?_); apply k0; clear k0; simp only [zP, V])
  (refine aj rfl fun _ k0 => ?_; simp only [zO, zT, acs, reduceCtorEq, aa, V, ad, ag, af, ae, Mly.av]; (repeat refine an ?_); (try refine .inl ?_); apply k0; clear k0; simp only [zP, V])
  refine am ?_
  refine ⟨by simp only [zP, aa, V]; exact rfl, rfl, ?_, rfl⟩; (repeat refine aP rfl ?_); exact bo (by exact rfl) hq9
 case b9 => exact cr
 simp only [bb, aT]
 (refine aj rfl fun _ k0 => ?_; simp only [zO, zT, acs, reduceCtorEq, aa, V, ad, ag, af, ae, Mly.av]; (repeat refine an ?_); (try refine .inl ?_); apply k0; clear k0; simp only [zP, V])
 refine am ?_
 apply k8; clear k8; refine kp [0, 1, 2, 3, 4, 16] ?_
 refine aF ?_
 refine ⟨nr, _, rfl, ?_⟩; simp only [zF, zP, aa, V, Mly.av]
 refine VLE.of_eq ?_
 first | (rw [hno]; done) | (rw [hno]; rfl) | (rw [hnb, hyes.1, he9]; rfl)
theorem qV (m : Mly) : bP Try.prog 32 [m.av] (.one (.int .i64 (dR m))) := by
 refine aS Try.func32 rfl (by kernel_rfl) (Nat.le_of_ble_eq_true rfl) rfl fun C hP hN hB => ?_
 replace hN : C.N = 12 := hN
 simp only [bf, V]
 refine ai fun _ k1 => ?_
 refine ak hP hN rfl ?_
 iterate 2 (refine aj rfl fun _ k0 => ?_; simp only [zO, zT, acs, reduceCtorEq, aa, V, ad, ag, af, ae, Mly.av]; (repeat refine an ?_); (try refine .inl ?_); apply k0; clear k0; simp only [zP, V])
 refine am ?_
 apply k1; clear k1; refine kp [0, 1, 2] ?_
 refine ai fun _ k2 => ?_
 refine ai fun _ k3 => ?_
 refine ak hP hN rfl ?_
 (refine aj rfl fun _ k0 => ?_; simp only [zO, zT, acs, reduceCtorEq, aa, V, ad, ag, af, ae, Mly.av]; (repeat refine an ?_); (try refine .inl ?_); apply k0; clear k0; simp only [zP, V])
 refine aj rfl fun _ k0 => ?_
 refine aK (h := aE (jA m)) rfl rfl (by first | exact rfl | (simp only [ev, zP, aa, V]; exact rfl)) (by simp only [zV, acs, reduceCtorEq, aa, V, ad, ag, af, ae, Mly.av]) ?_
 apply k0; clear k0; simp only [zP, V]
 (refine aj rfl fun _ k0 => ?_; simp only [zO, zT, acs, reduceCtorEq, aa, V, ad, ag, af, ae, Mly.av]; (repeat refine an ?_); (try refine .inl ?_); apply k0; clear k0; simp only [zP, V])
 refine am ?_
 apply k3; clear k3; refine kp [0, 1, 2, 3] ?_
 refine ai fun _ k4 => ?_
 refine ak hP hN rfl ?_
 iterate 2 (refine aj rfl fun _ k0 => ?_; simp only [zO, zT, acs, reduceCtorEq, aa, V, ad, ag, af, ae, Mly.av]; (repeat refine an ?_); (try refine .inl ?_); apply k0; clear k0; simp only [zP, V])
 refine am ?_
 apply k4; clear k4; refine kp [0, 1, 2, 3, 7] ?_
 refine cd (fun hc5 => ?_) (fun hc5 => ?_)
 ·(try simp only [zB, reduceCtorEq] at hc5)
  refine ai fun _ k6 => ?_
  refine ak hP hN rfl ?_
  iterate 2 (refine aj rfl fun _ k0 => ?_; simp only [zO, zT, acs, reduceCtorEq, aa, V, ad, ag, af, ae, Mly.av]; (repeat refine an ?_); (try refine .inl ?_); apply k0; clear k0; simp only [zP, V])
  refine am ?_
  apply k6; clear k6; refine kp [0, 1, 2, 3, 7] ?_
  refine aF ?_
  refine ⟨nr, _, rfl, ?_⟩; simp only [zF, zP, aa, V, Mly.av]
  refine VLE.of_eq ?_
  refine congrArg (fun n => AV.one (AC.int IntKind.i64 n)) ?_
  unfold dR
  symm
  first
  | (rw [if_pos (by omega)]; done)
  | (rw [if_neg (by omega), if_neg (by simp_all)]; done)
  | (rw [if_neg (by omega), if_pos (by simp_all)]; done)
 (try simp only [zB, reduceCtorEq] at hc5)
 refine ay ?_
 apply k2; clear k2; refine kp [0, 1, 2, 3, 7] ?_
 refine ai fun _ k7 => ?_
 refine ai fun _ k8 => ?_
 refine ak hP hN rfl ?_
 (refine aj rfl fun _ k0 => ?_; simp only [zO, zT, acs, reduceCtorEq, aa, V, ad, ag, af, ae, Mly.av]; (repeat refine an ?_); (try refine .inl ?_); apply k0; clear k0; simp only [zP, V])
 refine aj rfl fun _ k0 => ?_
 refine aK (h := aE (xE m)) rfl rfl (by first | exact rfl | (simp only [ev, zP, aa, V]; exact rfl)) (by simp only [zV, acs, reduceCtorEq, aa, V, ad, ag, af, ae, Mly.av]) ?_
 apply k0; clear k0; simp only [zP, V]
 (refine aj rfl fun _ k0 => ?_; simp only [zO, zT, acs, reduceCtorEq, aa, V, ad, ag, af, ae, Mly.av]; (repeat refine an ?_); (try refine .inl ?_); apply k0; clear k0; simp only [zP, V])
 refine am ?_
 apply k8; clear k8; refine kp [0, 1, 2, 3, 7, 11] ?_
 refine cd (fun hc9 => ?_) (fun hc9 => ?_)
 ·(try simp only [zB, reduceCtorEq] at hc9)
  refine ai fun _ k10 => ?_
  refine ak hP hN rfl ?_
  (refine aj rfl fun _ k0 => ?_; simp only [zO, zT, acs, reduceCtorEq, aa, V, ad, ag, af, ae, Mly.av]; (repeat refine an ?_); (try refine .inl ?_); apply k0; clear k0; simp only [zP, V])
  refine am ?_
  apply k10; clear k10; refine kp [0, 1, 2, 3, 7, 11] ?_
  refine aF ?_
  refine ⟨nr, _, rfl, ?_⟩; simp only [zF, zP, aa, V, Mly.av]
  refine VLE.of_eq ?_
  refine congrArg (fun n => AV.one (AC.int IntKind.i64 n)) ?_
  unfold dR
  symm
  first
  | (rw [if_pos (by omega)]; done)
  | (rw [if_neg (by omega), if_neg (by simp_all)]; done)
  | (rw [if_neg (by omega), if_pos (by simp_all)]; done)
 (try simp only [zB, reduceCtorEq] at hc9)
 refine ay ?_
 apply k7; clear k7; refine kp [0, 1, 2, 3, 7, 11] ?_
 refine ai fun _ k11 => ?_
 refine ak hP hN rfl ?_
 (refine aj rfl fun _ k0 => ?_; simp only [zO, zT, acs, reduceCtorEq, aa, V, ad, ag, af, ae, Mly.av]; (repeat refine an ?_); (try refine .inl ?_); apply k0; clear k0; simp only [zP, V])
 refine am ?_
 apply k11; clear k11; refine kp [0, 1, 2, 3, 7, 11] ?_
 refine aF ?_
 refine ⟨nr, _, rfl, ?_⟩; simp only [zF, zP, aa, V, Mly.av]
 refine VLE.of_eq ?_
 refine congrArg (fun n => AV.one (AC.int IntKind.i64 n)) ?_
 unfold dR
 symm
 first
 | (rw [if_pos (by omega)]; done)
 | (rw [if_neg (by omega), if_neg (by simp_all)]; done)
 | (rw [if_neg (by omega), if_pos (by simp_all)]; done)
theorem ja (m : Mly) (hn : m.nx.length ≤ 1000) : bP Try.prog 34 [m.av] (.one (.list (.int .i64) ((List.range m.nx.length).map fun (i : Nat) => (i : Int)))) := by
 refine aS Try.func34 rfl (by kernel_rfl) (Nat.le_of_ble_eq_true rfl) rfl fun C hP hN hB => ?_
 replace hN : C.N = 20 := hN
 simp only [bf, V]
 refine ai fun _ k1 => ?_
 refine ak hP hN rfl ?_
 iterate 2 (refine aj rfl fun _ k0 => ?_; simp only [zO, zT, acs, reduceCtorEq, aa, V, ad, ag, af, ae, Mly.av, ah, bj]; (repeat refine an ?_); (try refine .inl ?_); apply k0; clear k0; simp only [zP, V])
 refine am ?_
 apply k1; clear k1; refine kp [0, 1, 2] ?_
 refine ai fun _ k2 => ?_
 refine ak hP hN rfl ?_
 iterate 3 (refine aj rfl fun _ k0 => ?_; simp only [zO, zT, acs, reduceCtorEq, aa, V, ad, ag, af, ae, Mly.av, ah, bj]; (repeat refine an ?_); (try refine .inl ?_); apply k0; clear k0; simp only [zP, V])
 (refine aj rfl fun _ k0 => ?_; simp only [zE, op1, ev, lkp, cY, bK, bM, d7, Nat.mul_one, bS, cL, acs, Ty.dflt, zG, bZ, cj, eW, dW, cE, cW, eh, Nat.div_one, cH, d5, Ty.size, br, dite_true, cQ, reduceCtorEq, aa, V, ad, ag, af, ae, Try.el22, Try.el41, Try.st24, Try.td2, Try.td22, Try.td24, Try.td3, Try.td41, Mly.av, ah, bj]; (repeat refine an ?_); (try refine .inl ?_); apply k0; clear k0; simp only [zP, V])
 (refine aj rfl fun _ k0 => ?_; simp only [zO, zT, acs, reduceCtorEq, aa, V, ad, ag, af, ae, Mly.av, ah, bj]; (repeat refine an ?_); (try refine .inl ?_); apply k0; clear k0; simp only [zP, V])
 refine am ?_
 apply k2; clear k2; refine kp [0, 1, 2, 3] ?_
 refine ai fun _ k3 => ?_
 refine ai fun _ k4 => ?_
 refine ak hP hN rfl ?_
 iterate 3 (refine aj rfl fun _ k0 => ?_; simp only [zO, zT, acs, reduceCtorEq, aa, V, ad, ag, af, ae, Mly.av, ah, bj]; (repeat refine an ?_); (try refine .inl ?_); apply k0; clear k0; simp only [zP, V])
 refine am ?_
 apply k4; clear k4; refine kp [0, 1, 2, 3, 10, 11] ?_
 refine aA ?_
 refine aY (fun n5 s5 => ∃ (k : Nat), (k ≤ m.nx.length) ∧ n5 = m.nx.length - k ∧ s5 = { env := [(2, .one .nils), (3, .one (.row 1 0)), (10, .one (.int .i64 (m.nx.length : Int))), (11, .one (.int .i64 (k : Int)))], L := [.vars 24 [.int .i64 m.inp, .int .i64 m.st, .list (.list (.int .i64)) m.nx, .list (.list (.int .i64)) m.ot], .row (.int .i64) 3 0 (prL (fun i => (i : Int)) m.nx.length k 0)] }) ?_ ?_
 ·refine ⟨_, _, ax [2, 3, 10, 11], 0, Nat.zero_le _, rfl, ?_⟩
  rw [z9]; rfl
 rintro n5 s5 ⟨k, hk, rfl, rfl⟩
 refine ai fun _ k6 => ?_
 refine ak hP hN rfl ?_
 (refine aj rfl fun _ k0 => ?_; simp only [zO, zT, acs, reduceCtorEq, aa, V, ad, ag, af, ae, Mly.av, ah, bj]; (repeat refine an ?_); (try refine .inl ?_); apply k0; clear k0; simp only [zP, V])
 refine am ?_
 apply k6; clear k6; refine kp [2, 3, 10, 11, 12] ?_
 refine ai fun _ k7 => ?_
 refine cd (fun hc8 => ?_) (fun hc8 => ?_)
 ·(try simp only [zB, reduceCtorEq] at hc8)
  refine ay ?_
  apply k7; clear k7; refine kp [2, 3, 10, 11, 12] ?_
  refine ai fun _ k9 => ?_
  refine aA ?_
  refine ai fun _ k10 => ?_
  refine ak hP hN rfl ?_
  iterate 2 (refine aj rfl fun _ k0 => ?_; simp only [zO, zT, acs, reduceCtorEq, aa, V, ad, ag, af, ae, Mly.av, ah, bj]; (repeat refine an ?_); (try refine .inl ?_); apply k0; clear k0; simp only [zP, V])
  refine am ?_
  apply k10; clear k10; refine kp [2, 3, 4, 10, 11, 12] ?_
  have hp9 := uo (f := fun i => (i : Int)) (n := m.nx.length) (s := k) (by omega)
  refine ak hP hN rfl ?_
  iterate 5 (refine aj rfl fun _ k0 => ?_; simp only [zO, zT, acs, reduceCtorEq, aa, V, ad, ag, af, ae, Mly.av, ah, bj, oN]; (repeat refine an ?_); (try refine .inl ?_); apply k0; clear k0; simp only [zP, V])
  refine am ?_
  apply k9; clear k9; refine kp [2, 3, 4, 10, 11, 12] ?_
  refine ak hP hN rfl ?_
  iterate 2 (refine aj rfl fun _ k0 => ?_; simp only [zO, zT, acs, reduceCtorEq, aa, V, ad, ag, af, ae, Mly.av, ah, bj]; (repeat refine an ?_); (try refine .inl ?_); apply k0; clear k0; simp only [zP, V])
  refine am ?_
  refine ⟨_, _, ?_, ax [2, 3, 10, 11], k + 1, by omega, rfl, ?_⟩
  · omega
  · rw [hp9, ← qR]; rfl
 (try simp only [zB, reduceCtorEq] at hc8)
 refine aV ?_
 apply k3; clear k3; refine kp [2, 3, 10, 11, 12] ?_
 refine ai fun _ k11 => ?_
 refine cq 1 rfl ?_; simp only [aH, bh, zS, aa, and_self, and_true, true_and, and_false, false_and, if_true, if_false, eq_self, reduceCtorEq, Nat.one_ne_zero, Nat.zero_ne_one]
 have hk9 : k = m.nx.length := by omega
 rw [hk9, tN]
 refine ak hP hN rfl ?_
 iterate 2 (refine aj rfl fun _ k0 => ?_; simp only [zO, zT, acs, reduceCtorEq, aa, V, ad, ag, af, ae, Mly.av, ah, bj]; (repeat refine an ?_); (try refine .inl ?_); apply k0; clear k0; simp only [zP, V])
 refine am ?_
 apply k11; clear k11; refine kp [2, 3, 10, 11, 12] ?_
 refine aF ?_
 refine ⟨nr, _, rfl, ?_⟩; simp only [zF, zP, aa, V, Mly.av, ah, bj]
 refine VLE.of_eq ?_
 rfl
theorem mR (xs : List Int) (h0 : 0 < xs.length) (h1 : xs.length ≤ 10000000000000) : kC Try.prog 51 [.one (.list (.int .i64) xs)] (.int .i64) 3 (xs) := by
 refine iX Try.func51 rfl (by kernel_rfl) (Nat.le_of_ble_eq_true rfl) rfl fun C hP hN hB => ?_
 replace hN : C.N = 8 := hN
 simp only [bf, V]
 refine ai fun _ k1 => ?_
 refine ak hP hN rfl ?_
 (refine aj rfl fun _ k0 => ?_; simp only [zO, zT, acs, reduceCtorEq, aa, V, ad, ag, af, ae]; (repeat refine an ?_); (try refine .inl ?_); apply k0; clear k0; simp only [zP, V])
 refine am ?_
 apply k1; clear k1; refine kp [0, 2] ?_
 refine ai fun _ k2 => ?_
 refine ai fun _ k3 => ?_
 refine ak hP hN rfl ?_
 iterate 2 (refine aj rfl fun _ k0 => ?_; simp only [zO, zT, acs, reduceCtorEq, aa, V, ad, ag, af, ae]; (repeat refine an ?_); (try refine .inl ?_); apply k0; clear k0; simp only [zP, V])
 refine am ?_
 apply k3; clear k3; refine kp [0, 2, 4] ?_
 refine cd (fun hc4 => ?_) (fun hc4 => ?_)
 · exfalso; (try simp only [zB, reduceCtorEq] at hc4); all_goals (first | (cases hc4; done) | omega | (simp at hc4; done) | (simp_all; done))
 (try simp only [zB, reduceCtorEq] at hc4)
 refine ay ?_
 apply k2; clear k2; refine kp [0, 2, 4] ?_
 refine ai fun _ k5 => ?_
 refine ak hP hN rfl ?_
 (refine aj rfl fun _ k0 => ?_; simp only [zO, zT, acs, reduceCtorEq, aa, V, ad, ag, af, ae]; (repeat refine an ?_); refine Or.inr (Or.inl (k0 _ ?_)); clear k0; simp only [zP, V])
 iterate 3 (refine aj rfl fun _ k0 => ?_; simp only [zO, zT, acs, reduceCtorEq, aa, V, ad, ag, af, ae]; (repeat refine an ?_); (try refine .inl ?_); apply k0; clear k0; simp only [zP, V])
 refine am ?_
 apply k5; clear k5; refine kp [0, 2, 4] ?_
 refine aF ?_
 refine ⟨by first | exact .inl rfl | exact .inr rfl, _, rfl, _, _, rfl, ?_⟩
 rfl
open Go.Shelf in
def Try.laysNm220_ren : Go.Shelf.Ren := ⟨fun | 20 => 74 | n => n, fun | 22 => 41 | 3 => 3 | 4 => 4 | 0 => 0 | n => n, fun | n => n⟩
theorem Try.laysNm220 : Go.Proofs.Lays2.n20 Try.prog Try.laysNm220_ren := {
  mixed := by kernel_rfl,
  f20 := Try.func74.trans (congrArg some (by kernel_rfl)),
  t0 := Try.underlying0,
  a0 := Try.isAgg0,
  z0 := Try.sizeOf0,
  v0 := Try.zeroValue0,
  t3 := Try.underlying3,
  a3 := Try.isAgg3,
  z3 := Try.sizeOf3,
  v3 := Try.zeroValue3,
  t4 := Try.underlying4,
  a4 := Try.isAgg4,
  z4 := Try.sizeOf4,
  v4 := Try.zeroValue4,
  t22 := Try.underlying41,
  a22 := Try.isAgg41,
  z22 := Try.sizeOf41,
  v22 := Try.zeroValue41,
  i3 := by kernel_rfl }
theorem nn : rT Try.prog 74 := ⟨⟨Try.f74, Try.func74, by kernel_rfl, by kernel_rfl⟩, fun blk off cap zs w hH hb hz => Any.slices_Compact_int Try.laysNm220 blk off cap zs w hH hb hz⟩
open Go.Shelf in
def Try.lays189_ren : Go.Shelf.Ren := ⟨fun | 189 => 73 | 125 => 84 | 257 => 83 | 128 => 98 | 129 => 99 | 294 => 90 | 295 => 91 | 296 => 92 | 297 => 93 | 298 => 94 | 299 => 95 | 216 => 85 | 300 => 96 | 301 => 97 | 328 => 103 | 329 => 104 | 330 => 105 | 331 => 106 | 332 => 107 | 215 => 100 | 343 => 109 | n => n, fun | 28 => 41 | 3 => 3 | 46 => 132 | 0 => 0 | 51 => 144 | 53 => 146 | 4 => 4 | 183 => 138 | 182 => 137 | 131 => 69 | 5 => 5 | 9 => 9 | 218 => 148 | 222 => 152 | 228 => 155 | 229 => 104 | n => n, fun | n => n⟩
theorem Try.lays189 : Go.Proofs.Lays.n189 Try.prog Try.lays189_ren := {
  mixed := by kernel_rfl,
  f125 := Try.func84.trans (congrArg some (by kernel_rfl)),
  f128 := Try.func98.trans (congrArg some (by kernel_rfl)),
  f129 := Try.func99.trans (congrArg some (by kernel_rfl)),
  f189 := Try.func73.trans (congrArg some (by kernel_rfl)),
  f215 := Try.func100.trans (congrArg some (by kernel_rfl)),
  f216 := Try.func85.trans (congrArg some (by kernel_rfl)),
  f257 := Try.func83.trans (congrArg some (by kernel_rfl)),
  f294 := Try.func90.trans (congrArg some (by kernel_rfl)),
  f295 := Try.func91.trans (congrArg some (by kernel_rfl)),
  f296 := Try.func92.trans (congrArg some (by kernel_rfl)),
  f297 := Try.func93.trans (congrArg some (by kernel_rfl)),
  f298 := Try.func94.trans (congrArg some (by kernel_rfl)),
  f299 := Try.func95.trans (congrArg some (by kernel_rfl)),
  f300 := Try.func96.trans (congrArg some (by kernel_rfl)),
  f301 := Try.func97.trans (congrArg some (by kernel_rfl)),
  f328 := Try.func103.trans (congrArg some (by kernel_rfl)),
  f329 := Try.func104.trans (congrArg some (by kernel_rfl)),
  f330 := Try.func105.trans (congrArg some (by kernel_rfl)),
  f331 := Try.func106.trans (congrArg some (by kernel_rfl)),
  f332 := Try.func107.trans (congrArg some (by kernel_rfl)),
  f343 := Try.func109.trans (congrArg some (by kernel_rfl)),
  t0 := Try.underlying0,
  a0 := Try.isAgg0,
  z0 := Try.sizeOf0,
  v0 := Try.zeroValue0,
  t3 := Try.underlying3,
  a3 := Try.isAgg3,
  z3 := Try.sizeOf3,
  v3 := Try.zeroValue3,
  t4 := Try.underlying4,
  a4 := Try.isAgg4,
  z4 := Try.sizeOf4,
  v4 := Try.zeroValue4,
  t5 := Try.underlying5,
  a5 := Try.isAgg5,
  z5 := Try.sizeOf5,
  v5 := Try.zeroValue5,
  t9 := Try.underlying9,
  a9 := Try.isAgg9,
  z9 := Try.sizeOf9,
  v9 := Try.zeroValue9,
  t28 := Try.underlying41,
  a28 := Try.isAgg41,
  z28 := Try.sizeOf41,
  v28 := Try.zeroValue41,
  t46 := Try.underlying132,
  a46 := Try.isAgg132,
  z46 := Try.sizeOf132,
  v46 := Try.zeroValue132,
  t51 := Try.underlying144,
  a51 := Try.isAgg144,
  z51 := Try.sizeOf144,
  v51 := Try.zeroValue144,
  t53 := Try.underlying146,
  a53 := Try.isAgg146,
  z53 := Try.sizeOf146,
  v53 := Try.zeroValue146,
  t131 := Try.underlying69,
  a131 := Try.isAgg69,
  z131 := Try.sizeOf69,
  v131 := Try.zeroValue69,
  t182 := Try.underlying137,
  a182 := Try.isAgg137,
  z182 := Try.sizeOf137,
  v182 := Try.zeroValue137,
  t183 := Try.underlying138,
  a183 := Try.isAgg138,
  z183 := Try.sizeOf138,
  v183 := Try.zeroValue138,
  t218 := Try.underlying148,
  a218 := Try.isAgg148,
  z218 := Try.sizeOf148,
  v218 := Try.zeroValue148,
  t222 := Try.underlying152,
  a222 := Try.isAgg152,
  z222 := Try.sizeOf152,
  v222 := Try.zeroValue152,
  t228 := Try.underlying155,
  a228 := Try.isAgg155,
  z228 := Try.sizeOf155,
  v228 := Try.zeroValue155,
  t229 := Try.underlying104,
  a229 := Try.isAgg104,
  z229 := Try.sizeOf104,
  v229 := Try.zeroValue104 }
theorem ta : yu Try.prog 73 := ⟨⟨Try.f73, Try.func73, by kernel_rfl, by kernel_rfl⟩, fun blk off cap zs w hH hb hz => Any.slices_Sort_int Try.lays189 blk off cap zs w hH hb hz⟩
theorem vo (xs : List Int) (h0 : 0 < xs.length) (hl : xs.length ≤ 1000000) : bP Try.prog 60 [.one (.list (.int .i64) xs)] (.one (.int .i64 ((aC xs).length : Int))) := by
 refine aS Try.func60 rfl (by kernel_rfl) (Nat.le_of_ble_eq_true rfl) rfl fun C hP hN hB => ?_
 replace hN : C.N = 11 := hN
 simp only [bf, V]
 refine ai fun _ k1 => ?_
 refine ak hP hN rfl ?_
 (refine aj rfl fun _ k0 => ?_; simp only [zO, zT, acs, reduceCtorEq, aa, V, ad, ag, af, ae]; (repeat refine an ?_); (try refine .inl ?_); apply k0; clear k0; simp only [zP, V])
 refine am ?_
 apply k1; clear k1; refine kp [0, 2] ?_
 refine ai fun _ k2 => ?_
 refine ak hP hN rfl ?_
 (refine aj rfl fun _ k0 => ?_; simp only [zO, zT, acs, reduceCtorEq, aa, V, ad, ag, af, ae]; (repeat refine an ?_); (try refine .inl ?_); apply k0; clear k0; simp only [zP, V])
 refine aj rfl fun _ k0 => ?_
 refine aK (h := lp (mR xs h0 (by omega))) rfl rfl (by first | exact rfl | (simp only [ev, zP, aa, V]; exact rfl)) (by simp only [zV, acs, reduceCtorEq, aa, V, ad, ag, af, ae]) ?_
 apply k0; clear k0; simp only [zP, V]
 (refine aj rfl fun _ k0 => ?_; simp only [zO, zT, acs, reduceCtorEq, aa, V, ad, ag, af, ae]; (repeat refine an ?_); (try refine .inl ?_); apply k0; clear k0; simp only [zP, V])
 refine am ?_
 apply k2; clear k2; refine kp [0, 2, 3] ?_
 refine ai fun _ k3 => ?_
 refine ak hP hN rfl ?_
 (refine aj rfl fun _ k0 => ?_; simp only [zO, zT, acs, reduceCtorEq, aa, V, ad, ag, af, ae]; (repeat refine an ?_); (try refine .inl ?_); apply k0; clear k0; simp only [zP, V])
 refine aj rfl fun _ k0 => ?_
 refine aK (h := oS (k := 0) (ver := 0) (xs := xs) ta rfl (by omega) (by omega)) rfl rfl (by first | exact rfl | (simp only [ev, zP, aa, V]; exact rfl)) (by simp only [zV, acs, reduceCtorEq, aa, V, ad, ag, af, ae]) ?_
 apply k0; clear k0; simp only [zP, V]
 refine am ?_
 apply k3; clear k3; refine kp [0, 2, 3] ?_
 refine ai fun _ k4 => ?_
 refine ak hP hN rfl ?_
 (refine aj rfl fun _ k0 => ?_; simp only [zO, zT, acs, reduceCtorEq, aa, V, ad, ag, af, ae]; (repeat refine an ?_); (try refine .inl ?_); apply k0; clear k0; simp only [zP, V])
 refine aj rfl fun _ k0 => ?_
 refine aK (h := kM (k := 0) (ver := 0) (xs := gN xs) nn rfl (by rw [gT]; omega) (by rw [gT]; omega) iZ) rfl rfl (by first | exact rfl | (simp only [ev, zP, aa, V]; exact rfl)) (by simp only [zV, acs, reduceCtorEq, aa, V, ad, ag, af, ae]) ?_
 apply k0; clear k0; simp only [zP, V]
 iterate 2 (refine aj rfl fun _ k0 => ?_; simp only [zO, zT, acs, reduceCtorEq, aa, V, ad, ag, af, ae]; (repeat refine an ?_); (try refine .inl ?_); apply k0; clear k0; simp only [zP, V])
 refine am ?_
 apply k4; clear k4; refine kp [0, 2, 3] ?_
 refine aF ?_
 refine ⟨nr, _, rfl, ?_⟩; simp only [zF, zP, aa, V]
 refine VLE.of_eq ?_
 rfl
theorem B1 (xs ys : List Int) : bP Try.prog 59 [.one (.list (.int .i64) xs), .one (.list (.int .i64) ys)] (.one (.bool (decide (xs = ys)))) := by
 refine aS Try.func59 rfl (by kernel_rfl) (Nat.le_of_ble_eq_true rfl) rfl fun C hP hN hB => ?_
 replace hN : C.N = 26 := hN
 simp only [bf, V]
 refine ox 0 rfl fun hf0 => ?_; simp only [lkp, if_true, if_false, reduceCtorEq, aa, eq_self, Nat.one_ne_zero, Nat.zero_ne_one, tX, qP, qQ, Fit, and_true, implies_true, true_and] at hf0
 refine ai fun _ k1 => ?_
 refine ak hP hN rfl ?_
 (refine aj rfl fun _ k0 => ?_; simp only [zO, zT, acs, reduceCtorEq, aa, V, ad, ag, af, ae]; (repeat refine an ?_); (try refine .inl ?_); apply k0; clear k0; simp only [zP, V])
 refine am ?_
 apply k1; clear k1; refine kp [0, 1, 4] ?_
 refine ai fun _ k2 => ?_
 refine ai fun _ k3 => ?_
 refine ak hP hN rfl ?_
 iterate 5 (refine aj rfl fun _ k0 => ?_; simp only [zO, zT, acs, reduceCtorEq, aa, V, ad, ag, af, ae]; (repeat refine an ?_); (try refine .inl ?_); apply k0; clear k0; simp only [zP, V])
 refine am ?_
 apply k3; clear k3; refine kp [0, 1, 4, 10] ?_
 refine cd (fun hc4 => ?_) (fun hc4 => ?_)
 ·(try simp only [zB, reduceCtorEq] at hc4)
  refine ai fun _ k5 => ?_
  refine ak hP hN rfl ?_
  (refine aj rfl fun _ k0 => ?_; simp only [zO, zT, acs, reduceCtorEq, aa, V, ad, ag, af, ae]; (repeat refine an ?_); (try refine .inl ?_); apply k0; clear k0; simp only [zP, V])
  refine am ?_
  apply k5; clear k5; refine kp [0, 1, 4, 10] ?_
  refine aF ?_
  refine ⟨nr, _, rfl, ?_⟩; simp only [zF, zP, aa, V]
  refine VLE.of_eq ?_
  first
  | (refine dT ?_; rintro rfl; first | exact absurd rfl ‹¬ _› | omega)
  | (refine ez ?_; have hk1 : k = xs.length := by omega
     have hk2 : k = ys.length := by omega
     rw [hk1, aI, ← hk1, hk2, aI] at hT; exact hT)
 (try simp only [zB, reduceCtorEq] at hc4)
 refine ay ?_
 apply k2; clear k2; refine kp [0, 1, 4, 10] ?_
 refine ai fun _ k6 => ?_
 refine ai fun _ k7 => ?_
 refine ak hP hN rfl ?_
 iterate 3 (refine aj rfl fun _ k0 => ?_; simp only [zO, zT, acs, reduceCtorEq, aa, V, ad, ag, af, ae]; (repeat refine an ?_); (try refine .inl ?_); apply k0; clear k0; simp only [zP, V])
 refine am ?_
 apply k7; clear k7; refine kp [0, 1, 4, 10, 12, 13] ?_
 refine aA ?_
 refine aY (fun n8 s8 => ∃ (k : Nat), (k ≤ xs.length) ∧ (xs.take k = ys.take k) ∧ n8 = xs.length - k ∧ s8 = { env := [(0, .one (.list (.int .i64) xs)), (1, .one (.list (.int .i64) ys)), (12, .one (.int .i64 (xs.length : Int))), (13, .one (.int .i64 (k : Int)))], L := [] }) ?_ ?_
 ·exact ⟨_, _, ax [0, 1, 12, 13], 0, Nat.zero_le _, rfl, rfl, rfl⟩
 rintro n8 s8 ⟨k, hk, hT, rfl, rfl⟩
 refine ai fun _ k9 => ?_
 refine ak hP hN rfl ?_
 (refine aj rfl fun _ k0 => ?_; simp only [zO, zT, acs, reduceCtorEq, aa, V, ad, ag, af, ae]; (repeat refine an ?_); (try refine .inl ?_); apply k0; clear k0; simp only [zP, V])
 refine am ?_
 apply k9; clear k9; refine kp [0, 1, 12, 13, 14] ?_
 refine ai fun _ k10 => ?_
 refine cd (fun hc11 => ?_) (fun hc11 => ?_)
 ·(try simp only [zB, reduceCtorEq] at hc11)
  refine ay ?_
  apply k10; clear k10; refine kp [0, 1, 12, 13, 14] ?_
  refine ai fun _ k12 => ?_
  refine aA ?_
  refine ai fun _ k13 => ?_
  refine ak hP hN rfl ?_
  iterate 2 (refine aj rfl fun _ k0 => ?_; simp only [zO, zT, acs, reduceCtorEq, aa, V, ad, ag, af, ae]; (repeat refine an ?_); (try refine .inl ?_); apply k0; clear k0; simp only [zP, V])
  refine am ?_
  apply k13; clear k13; refine kp [0, 1, 5, 12, 13, 14] ?_
  refine ai fun _ k14 => ?_
  refine bn hP hN Try.mixed rfl ?_
  iterate 9 (refine aj rfl fun _ k0 => ?_; simp only [zO, zT, acs, reduceCtorEq, aa, V, ad, ag, af, ae]; (repeat refine an ?_); (try refine .inl ?_); apply k0; clear k0; simp only [zP, V])
  refine am ?_
  refine ⟨by kernel_rfl, ?_⟩
  apply k14; clear k14; refine kp [0, 1, 5, 12, 13, 14, 24] ?_
  refine cd (fun hc15 => ?_) (fun hc15 => ?_)
  ·(try simp only [zB, reduceCtorEq] at hc15)
   refine ai fun _ k16 => ?_
   refine ak hP hN rfl ?_
   (refine aj rfl fun _ k0 => ?_; simp only [zO, zT, acs, reduceCtorEq, aa, V, ad, ag, af, ae]; (repeat refine an ?_); (try refine .inl ?_); apply k0; clear k0; simp only [zP, V])
   refine am ?_
   apply k16; clear k16; refine kp [0, 1, 4, 5, 12, 13, 14, 24] ?_
   refine aF ?_
   refine ⟨nr, _, rfl, ?_⟩; simp only [zF, zP, aa, V]
   refine VLE.of_eq ?_
   first
   | (refine dT ?_; rintro rfl; first | exact absurd rfl ‹¬ _› | omega)
   | (refine ez ?_; have hk1 : k = xs.length := by omega
      have hk2 : k = ys.length := by omega
      rw [hk1, aI, ← hk1, hk2, aI] at hT; exact hT)
  (try simp only [zB, reduceCtorEq] at hc15)
  refine ay ?_
  apply k12; clear k12; refine kp [0, 1, 5, 12, 13, 14, 24] ?_
  refine ak hP hN rfl ?_
  iterate 2 (refine aj rfl fun _ k0 => ?_; simp only [zO, zT, acs, reduceCtorEq, aa, V, ad, ag, af, ae]; (repeat refine an ?_); (try refine .inl ?_); apply k0; clear k0; simp only [zP, V])
  refine am ?_
  refine ⟨_, _, ?_, ax [0, 1, 12, 13], k + 1, by omega, iy (d := 0) hT (by omega) (by omega) ?_, rfl, rfl⟩
  · omega
  · first | assumption | omega
 (try simp only [zB, reduceCtorEq] at hc11)
 refine aV ?_
 apply k6; clear k6; refine kp [0, 1, 12, 13, 14] ?_
 refine ai fun _ k17 => ?_
 refine ak hP hN rfl ?_
 (refine aj rfl fun _ k0 => ?_; simp only [zO, zT, acs, reduceCtorEq, aa, V, ad, ag, af, ae]; (repeat refine an ?_); (try refine .inl ?_); apply k0; clear k0; simp only [zP, V])
 refine am ?_
 apply k17; clear k17; refine kp [0, 1, 4, 12, 13, 14] ?_
 refine aF ?_
 refine ⟨nr, _, rfl, ?_⟩; simp only [zF, zP, aa, V]
 refine VLE.of_eq ?_
 first
 | (refine dT ?_; rintro rfl; first | exact absurd rfl ‹¬ _› | omega)
 | (refine ez ?_; have hk1 : k = xs.length := by omega
    have hk2 : k = ys.length := by omega
    rw [hk1, aI, ← hk1, hk2, aI] at hT; exact hT)
theorem wM (x : Int) : bP Try.prog 100 [.one (.int .i64 x)] (.one (.bool (wc x))) := by
 refine aS Try.func100 rfl (by kernel_rfl) (Nat.le_of_ble_eq_true rfl) rfl fun C hP hN hB => ?_
 replace hN : C.N = 6 := hN
 simp only [bf, V]
 refine ai fun _ k1 => ?_
 refine ak hP hN rfl ?_
 (refine aj rfl fun _ k0 => ?_; simp only [zO, zT, acs, reduceCtorEq, aa, V, ad, ag, af, ae]; (repeat refine an ?_); (try refine .inl ?_); apply k0; clear k0; simp only [zP, V])
 refine am ?_
 apply k1; clear k1; refine kp [0, 2] ?_
 refine ai fun _ k2 => ?_
 refine ak hP hN rfl ?_
 iterate 4 (refine aj rfl fun _ k0 => ?_; simp only [zO, zT, acs, reduceCtorEq, aa, V, ad, ag, af, ae]; (repeat refine an ?_); (try refine .inl ?_); apply k0; clear k0; simp only [zP, V])
 refine am ?_
 apply k2; clear k2; refine kp [0, 2] ?_
 refine aF ?_
 refine ⟨nr, _, rfl, ?_⟩; simp only [zF, zP, aa, V]
 refine VLE.of_eq ?_
 rw [o3]
theorem A4 (x y : Int) : bP Try.prog 85 [.one (.int .i64 x), .one (.int .i64 y)] (.one (.bool (decide (x < y)))) := by
 refine aS Try.func85 rfl (by kernel_rfl) (Nat.le_of_ble_eq_true rfl) rfl fun C hP hN hB => ?_
 replace hN : C.N = 17 := hN
 simp only [bf, V]
 refine ai fun _ k1 => ?_
 refine ak hP hN rfl ?_
 (refine aj rfl fun _ k0 => ?_; simp only [zO, zT, acs, reduceCtorEq, aa, V, ad, ag, af, ae]; (repeat refine an ?_); (try refine .inl ?_); apply k0; clear k0; simp only [zP, V])
 refine am ?_
 apply k1; clear k1; refine kp [0, 1, 4] ?_
 refine ai fun _ k2 => ?_
 refine ak hP hN rfl ?_
 (refine aj rfl fun _ k0 => ?_; simp only [zO, zT, acs, reduceCtorEq, aa, V, ad, ag, af, ae]; (repeat refine an ?_); (try refine .inl ?_); apply k0; clear k0; simp only [zP, V])
 refine aj rfl fun _ k0 => ?_
 refine aK (h := aE (wM x)) rfl rfl (by first | exact rfl | (simp only [ev, zP, aa, V]; exact rfl)) (by simp only [zV, acs, reduceCtorEq, aa, V, ad, ag, af, ae]) ?_
 apply k0; clear k0; simp only [zP, V]
 (refine aj rfl fun _ k0 => ?_; simp only [zO, zT, acs, reduceCtorEq, aa, V, ad, ag, af, ae]; (repeat refine an ?_); (try refine .inl ?_); apply k0; clear k0; simp only [zP, V])
 refine' aO (want := true) 3 rfl (m := 7) (by simp only [zP, aa, V]; exact rfl) (by kernel_rfl) rfl rfl rfl rfl rfl (fun hg3 => ?a3) ?b3 ?c3
 case a3 =>
  have hq3 := hg3; (try simp only [zB, reduceCtorEq] at hg3); simp only [zE]
  (refine bg rfl fun _ k0 => ?_; simp only [zO, zT, acs, reduceCtorEq, aa, V, ad, ag, af, ae]; (repeat refine an ?_); (try refine .inl ?_); apply k0; clear k0; simp only [zP, V])
  refine bg rfl fun _ k0 => ?_
  refine aK (h := aE (wM y)) rfl rfl (by first | exact rfl | (simp only [ev, zP, aa, V]; exact rfl)) (by simp only [zV, acs, reduceCtorEq, aa, V, ad, ag, af, ae]) ?_
  apply k0; clear k0; simp only [zP, V]
  (refine bg rfl fun _ k0 => ?_; simp only [zO, zT, acs, reduceCtorEq, aa, V, ad, ag, af, ae]; (repeat refine an ?_); (try refine .inl ?_); apply k0; clear k0; simp only [zP, V])
  (refine aj rfl fun _ k0 => ?_; simp only [zO, zT, acs, reduceCtorEq, aa, V, ad, ag, af, ae]; (repeat refine an ?_); (try refine .inl ?_); apply k0; clear k0; simp only [zP, V])
  refine am ?_
  refine ⟨by simp only [zP, aa, V]; exact rfl, rfl, ?_, rfl⟩; (repeat refine aP rfl ?_); exact bo (by exact rfl) hq3
 case b3 => exact cr
 simp only [bb, aT]
 (refine aj rfl fun _ k0 => ?_; simp only [zO, zT, acs, reduceCtorEq, aa, V, ad, ag, af, ae]; (repeat refine an ?_); (try refine .inl ?_); apply k0; clear k0; simp only [zP, V])
 refine' aO (want := false) 3 rfl (m := 12) (by simp only [zP, aa, V]; exact rfl) (by kernel_rfl) rfl rfl rfl rfl rfl (fun hg4 => ?a4) ?b4 ?c4
 case a4 =>
  have hq4 := hg4; (try simp only [zB, reduceCtorEq] at hg4); simp only [zE]
  iterate 3 (refine bg rfl fun _ k0 => ?_; simp only [zO, zT, acs, reduceCtorEq, aa, V, ad, ag, af, ae]; (repeat refine an ?_); (try refine .inl ?_); apply k0; clear k0; simp only [zP, V])
  (refine aj rfl fun _ k0 => ?_; simp only [zO, zT, acs, reduceCtorEq, aa, V, ad, ag, af, ae]; (repeat refine an ?_); (try refine .inl ?_); apply k0; clear k0; simp only [zP, V])
  refine am ?_
  refine ⟨by simp only [zP, aa, V]; exact rfl, rfl, ?_, rfl⟩; (repeat refine aP rfl ?_); exact bo (by exact rfl) hq4
 case b4 => exact cr
 simp only [bb, aT]
 (refine aj rfl fun _ k0 => ?_; simp only [zO, zT, acs, reduceCtorEq, aa, V, ad, ag, af, ae]; (repeat refine an ?_); (try refine .inl ?_); apply k0; clear k0; simp only [zP, V])
 refine am ?_
 apply k2; clear k2; refine kp [0, 1, 4] ?_
 refine aF ?_
 refine ⟨nr, _, rfl, ?_⟩; simp only [zF, zP, aa, V]
 refine VLE.of_eq ?_
 refine congrArg (fun b => AV.one (AC.bool b)) ?_
 simp [o3]
theorem vZ (x : Int) : bP Try.prog 86 [.one (.int .i64 x)] (.one (.bool (wc x))) := by
 refine aS Try.func86 rfl (by kernel_rfl) (Nat.le_of_ble_eq_true rfl) rfl fun C hP hN hB => ?_
 replace hN : C.N = 6 := hN
 simp only [bf, V]
 refine ai fun _ k1 => ?_
 refine ak hP hN rfl ?_
 (refine aj rfl fun _ k0 => ?_; simp only [zO, zT, acs, reduceCtorEq, aa, V, ad, ag, af, ae]; (repeat refine an ?_); (try refine .inl ?_); apply k0; clear k0; simp only [zP, V])
 refine am ?_
 apply k1; clear k1; refine kp [0, 2] ?_
 refine ai fun _ k2 => ?_
 refine ak hP hN rfl ?_
 iterate 4 (refine aj rfl fun _ k0 => ?_; simp only [zO, zT, acs, reduceCtorEq, aa, V, ad, ag, af, ae]; (repeat refine an ?_); (try refine .inl ?_); apply k0; clear k0; simp only [zP, V])
 refine am ?_
 apply k2; clear k2; refine kp [0, 2] ?_
 refine aF ?_
 refine ⟨nr, _, rfl, ?_⟩; simp only [zF, zP, aa, V]
 refine VLE.of_eq ?_
 rw [o3]
theorem vm (xs : List Int) (o : Int) (hx : xs.Pairwise (· < ·)) (ho : o ∈ xs) (hl : xs.length ≤ 1000000) : bP Try.prog 75 [.one (.list (.int .i64) xs), .one (.int .i64 o)] (.tup [.one (.int .i64 (pos xs o : Int)), .one (.bool true)]) := by
 refine aS Try.func75 rfl (by kernel_rfl) (Nat.le_of_ble_eq_true rfl) rfl fun C hP hN hB => ?_
 replace hN : C.N = 54 := hN
 simp only [bf, V]
 refine ai fun _ k1 => ?_
 refine ak hP hN rfl ?_
 iterate 2 (refine aj rfl fun _ k0 => ?_; simp only [zO, zT, acs, reduceCtorEq, aa, V, ad, ag, af, ae, cM, Int.toNat_one, Int.reducePow, Int.reduceToNat]; (repeat refine an ?_); (try refine .inl ?_); apply k0; clear k0; simp only [zP, V])
 refine am ?_
 apply k1; clear k1; refine kp [0, 1, 4, 5] ?_
 refine ai fun _ k2 => ?_
 refine ak hP hN rfl ?_
 iterate 3 (refine aj rfl fun _ k0 => ?_; simp only [zO, zT, acs, reduceCtorEq, aa, V, ad, ag, af, ae, cM, Int.toNat_one, Int.reducePow, Int.reduceToNat]; (repeat refine an ?_); (try refine .inl ?_); apply k0; clear k0; simp only [zP, V])
 refine am ?_
 apply k2; clear k2; refine kp [0, 1, 4, 5, 6] ?_
 refine ai fun _ k3 => ?_
 refine ak hP hN rfl ?_
 iterate 3 (refine aj rfl fun _ k0 => ?_; simp only [zO, zT, acs, reduceCtorEq, aa, V, ad, ag, af, ae, cM, Int.toNat_one, Int.reducePow, Int.reduceToNat]; (repeat refine an ?_); (try refine .inl ?_); apply k0; clear k0; simp only [zP, V])
 refine am ?_
 apply k3; clear k3; refine kp [0, 1, 4, 5, 6, 7, 8] ?_
 refine ai fun _ k4 => ?_
 refine aA ?_
 refine aY (fun n5 s5 => ∃ (lo hi : Nat), (lo ≤ hi ∧ hi ≤ xs.length) ∧ (∀ q, q < lo → xs.getD q 0 < o) ∧ (∀ q, hi ≤ q → q < xs.length → o ≤ xs.getD q 0) ∧ n5 = hi - lo ∧ s5 = { env := [(0, .one (.list (.int .i64) xs)), (1, .one (.int .i64 o)), (4, .one (.int .i64 0)), (5, .one (.bool false)), (6, .one (.int .i64 (xs.length : Int))), (7, .one (.int .i64 (lo : Int))), (8, .one (.int .i64 (hi : Int)))], L := [] }) ?_ ?_
 ·exact ⟨_, _, ax [0, 1, 4, 5, 6, 7, 8], 0, xs.length, ⟨Nat.zero_le _, Nat.le_refl _⟩, fun q h => by omega, fun q h h2 => by omega, rfl, rfl⟩
 rintro n5 s5 ⟨lo, hi, hlo, h1, h2, rfl, rfl⟩
 refine ai fun _ k6 => ?_
 refine ai fun _ k7 => ?_
 refine ak hP hN rfl ?_
 iterate 3 (refine aj rfl fun _ k0 => ?_; simp only [zO, zT, acs, reduceCtorEq, aa, V, ad, ag, af, ae, cM, Int.toNat_one, Int.reducePow, Int.reduceToNat]; (repeat refine an ?_); (try refine .inl ?_); apply k0; clear k0; simp only [zP, V])
 refine am ?_
 apply k7; clear k7; refine kp [0, 1, 4, 5, 6, 7, 8, 15] ?_
 refine cd (fun hc8 => ?_) (fun hc8 => ?_)
 ·(try simp only [zB, reduceCtorEq] at hc8)
  refine ay ?_
  apply k6; clear k6; refine kp [0, 1, 4, 5, 6, 7, 8, 15] ?_
  refine aA ?_
  refine ai fun _ k9 => ?_
  refine ak hP hN rfl ?_
  iterate 3 (refine aj rfl fun _ k0 => ?_; simp only [zO, zT, acs, reduceCtorEq, aa, V, ad, ag, af, ae, cM, Int.toNat_one, Int.reducePow, Int.reduceToNat]; (repeat refine an ?_); (try refine .inl ?_); apply k0; clear k0; simp only [zP, V])
  (refine aj rfl fun _ k0 => ?_; simp only [zE, op1, ev, lkp, cY, bK, jf, cT, fG, gX, eU, gD, gk, reduceCtorEq, aa, V, ad, ag, af, ae, Try.td132, Try.td3, cM, Int.toNat_one, Int.reducePow, Int.reduceToNat]; (repeat refine an ?_); (try refine .inl ?_); apply k0; clear k0; simp only [zP, V])
  (refine aj rfl fun _ k0 => ?_; simp only [zO, zT, acs, reduceCtorEq, aa, V, ad, ag, af, ae, cM, Int.toNat_one, Int.reducePow, Int.reduceToNat]; (repeat refine an ?_); (try refine .inl ?_); apply k0; clear k0; simp only [zP, V])
  (refine aj rfl fun _ k0 => ?_; simp only [zE, op1, ev, lkp, cY, bK, jf, cT, fG, gX, eU, gD, gk, reduceCtorEq, aa, V, ad, ag, af, ae, Try.td132, Try.td3, cM, Int.toNat_one, Int.reducePow, Int.reduceToNat]; (repeat refine an ?_); (try refine .inl ?_); apply k0; clear k0; simp only [zP, V])
  (refine aj rfl fun _ k0 => ?_; simp only [zO, zT, acs, reduceCtorEq, aa, V, ad, ag, af, ae, cM, Int.toNat_one, Int.reducePow, Int.reduceToNat]; (repeat refine an ?_); (try refine .inl ?_); apply k0; clear k0; simp only [zP, V])
  refine am ?_
  apply k9; clear k9; refine kp [0, 1, 4, 5, 6, 7, 8, 9, 15] ?_
  refine ai fun _ k10 => ?_
  have hmid : ((lo : Int) + (hi : Int)) / 2 = (((lo + hi) / 2) : Nat) := by omega
  rw [hmid]
  have hml : ((lo + hi) / 2) < xs.length := by omega
  refine ak hP hN rfl ?_
  iterate 5 (refine aj rfl fun _ k0 => ?_; simp only [zO, zT, acs, reduceCtorEq, aa, V, ad, ag, af, ae, cM, Int.toNat_one, Int.reducePow, Int.reduceToNat]; (repeat refine an ?_); (try refine .inl ?_); apply k0; clear k0; simp only [zP, V])
  refine aj rfl fun _ k0 => ?_
  refine aK (h := aE (A4 (xs.getD ((lo + hi) / 2) 0) o)) rfl rfl (by first | exact rfl | (simp only [ev, zP, aa, V]; exact rfl)) (by simp only [zV, acs, reduceCtorEq, aa, V, ad, ag, af, ae, cM, Int.toNat_one, Int.reducePow, Int.reduceToNat]) ?_
  apply k0; clear k0; simp only [zP, V]
  refine am ?_
  apply k10; clear k10; refine kp [0, 1, 4, 5, 6, 7, 8, 9, 15, 27] ?_
  refine cd (fun hc11 => ?_) (fun hc11 => ?_)
  ·(try simp only [zB, reduceCtorEq] at hc11)
   have hv : xs.getD ((lo + hi) / 2) 0 < o := by simpa using hc11
   refine ak hP hN rfl ?_
   iterate 3 (refine aj rfl fun _ k0 => ?_; simp only [zO, zT, acs, reduceCtorEq, aa, V, ad, ag, af, ae, cM, Int.toNat_one, Int.reducePow, Int.reduceToNat]; (repeat refine an ?_); (try refine .inl ?_); apply k0; clear k0; simp only [zP, V])
   refine am ?_
   first
   | (refine ⟨_, _, ?_, ax [0, 1, 4, 5, 6, 7, 8], ((lo + hi) / 2) + 1, hi, ⟨by omega, hlo.2⟩, pb hx hml hv, h2, rfl, rfl⟩
      omega)
   | (refine ⟨_, _, ?_, ax [0, 1, 4, 5, 6, 7, 8], lo, ((lo + hi) / 2), ⟨by omega, by omega⟩, h1, pq hx hml hv, rfl, rfl⟩
      omega)
  (try simp only [zB, reduceCtorEq] at hc11)
  have hv : ¬ xs.getD ((lo + hi) / 2) 0 < o := by simpa using hc11
  refine ak hP hN rfl ?_
  iterate 2 (refine aj rfl fun _ k0 => ?_; simp only [zO, zT, acs, reduceCtorEq, aa, V, ad, ag, af, ae, cM, Int.toNat_one, Int.reducePow, Int.reduceToNat]; (repeat refine an ?_); (try refine .inl ?_); apply k0; clear k0; simp only [zP, V])
  refine am ?_
  first
  | (refine ⟨_, _, ?_, ax [0, 1, 4, 5, 6, 7, 8], ((lo + hi) / 2) + 1, hi, ⟨by omega, hlo.2⟩, pb hx hml hv, h2, rfl, rfl⟩
     omega)
  | (refine ⟨_, _, ?_, ax [0, 1, 4, 5, 6, 7, 8], lo, ((lo + hi) / 2), ⟨by omega, by omega⟩, h1, pq hx hml hv, rfl, rfl⟩
     omega)
 (try simp only [zB, reduceCtorEq] at hc8)
 refine aV ?_
 apply k4; clear k4; refine kp [0, 1, 4, 5, 6, 7, 8, 15] ?_
 refine ai fun _ k12 => ?_
 have hlh : lo = hi := by omega
 obtain ⟨hpz, hgz, hlz⟩ := Am hx ho h1 (by rw [hlh]; exact h2)
 refine ak hP hN rfl ?_
 iterate 5 (refine aj rfl fun _ k0 => ?_; simp only [zO, zT, acs, reduceCtorEq, aa, V, ad, ag, af, ae, cM, Int.toNat_one, Int.reducePow, Int.reduceToNat]; (repeat refine an ?_); (try refine .inl ?_); apply k0; clear k0; simp only [zP, V])
 refine' aO (want := true) 17 rfl (m := 35) (by simp only [zP, aa, V]; exact rfl) (by kernel_rfl) rfl rfl rfl rfl rfl (fun hg13 => ?a13) ?b13 ?c13
 case a13 =>
  have hq13 := hg13; (try simp only [zB, reduceCtorEq] at hg13); simp only [zE]
  iterate 7 (refine bg rfl fun _ k0 => ?_; simp only [zO, zT, acs, reduceCtorEq, aa, V, ad, ag, af, ae, cM, Int.toNat_one, Int.reducePow, Int.reduceToNat]; (repeat refine an ?_); (try refine .inl ?_); apply k0; clear k0; simp only [zP, V])
  refine' aO (want := false) 9 rfl (m := 42) (by simp only [zP, aa, V]; exact rfl) (by kernel_rfl) rfl rfl rfl rfl rfl (fun hg14 => ?a14) ?b14 ?c14
  case a14 =>
   have hq14 := hg14; (try simp only [zB, reduceCtorEq] at hg14); simp only [zE]
   iterate 4 (refine bg rfl fun _ k0 => ?_; simp only [zO, zT, acs, reduceCtorEq, aa, V, ad, ag, af, ae, cM, Int.toNat_one, Int.reducePow, Int.reduceToNat]; (repeat refine an ?_); (try refine .inl ?_); apply k0; clear k0; simp only [zP, V])
   refine bg rfl fun _ k0 => ?_
   refine aK (h := aE (vZ (xs.getD lo 0))) rfl rfl (by first | exact rfl | (simp only [ev, zP, aa, V]; exact rfl)) (by simp only [zV, acs, reduceCtorEq, aa, V, ad, ag, af, ae, cM, Int.toNat_one, Int.reducePow, Int.reduceToNat]) ?_
   apply k0; clear k0; simp only [zP, V]
   (refine bg rfl fun _ k0 => ?_; simp only [zO, zT, acs, reduceCtorEq, aa, V, ad, ag, af, ae, cM, Int.toNat_one, Int.reducePow, Int.reduceToNat]; (repeat refine an ?_); (try refine .inl ?_); apply k0; clear k0; simp only [zP, V])
   refine' aO (want := true) 2 rfl (m := 48) (by simp only [zP, aa, V]; exact rfl) (by kernel_rfl) rfl rfl rfl rfl rfl (fun hg15 => ?a15) ?b15 ?c15
   case a15 =>
    have hq15 := hg15; (try simp only [zB, reduceCtorEq] at hg15); simp only [zE]
    (refine bg rfl fun _ k0 => ?_; simp only [zO, zT, acs, reduceCtorEq, aa, V, ad, ag, af, ae, cM, Int.toNat_one, Int.reducePow, Int.reduceToNat]; (repeat refine an ?_); (try refine .inl ?_); apply k0; clear k0; simp only [zP, V])
    refine bg rfl fun _ k0 => ?_
    refine aK (h := aE (vZ o)) rfl rfl (by first | exact rfl | (simp only [ev, zP, aa, V]; exact rfl)) (by simp only [zV, acs, reduceCtorEq, aa, V, ad, ag, af, ae, cM, Int.toNat_one, Int.reducePow, Int.reduceToNat]) ?_
    apply k0; clear k0; simp only [zP, V]
    (refine bg rfl fun _ k0 => ?_; simp only [zO, zT, acs, reduceCtorEq, aa, V, ad, ag, af, ae, cM, Int.toNat_one, Int.reducePow, Int.reduceToNat]; (repeat refine an ?_); (try refine .inl ?_); apply k0; clear k0; simp only [zP, V])
    refine am ?_
    refine ⟨by simp only [zP, aa, V]; exact rfl, rfl, ?_, rfl⟩; (repeat refine aP rfl ?_); exact bo (by exact rfl) hq15
   case b15 => exact cr
   simp only [bb, aT]
   (refine bg rfl fun _ k0 => ?_; simp only [zO, zT, acs, reduceCtorEq, aa, V, ad, ag, af, ae, cM, Int.toNat_one, Int.reducePow, Int.reduceToNat]; (repeat refine an ?_); (try refine .inl ?_); apply k0; clear k0; simp only [zP, V])
   refine am ?_
   refine ⟨by simp only [zP, aa, V]; exact rfl, rfl, ?_, rfl⟩; (repeat refine aP rfl ?_); exact bo (by exact rfl) hq14
  case b14 => exact cr
  simp only [bb, aT]
  (refine aj rfl fun _ k0 => ?_; simp only [zO, zT, acs, reduceCtorEq, aa, V, ad, ag, af, ae, cM, Int.toNat_one, Int.reducePow, Int.reduceToNat]; (repeat refine an ?_); (try refine .inl ?_); apply k0; clear k0; simp only [zP, V])
  refine am ?_
  refine ⟨by simp only [zP, aa, V]; exact rfl, rfl, ?_, rfl⟩; (repeat refine aP rfl ?_); exact bo (by exact rfl) hq13
 case b13 => exact cr
 simp only [bb, aT]
 iterate 2 (refine aj rfl fun _ k0 => ?_; simp only [zO, zT, acs, reduceCtorEq, aa, V, ad, ag, af, ae, cM, Int.toNat_one, Int.reducePow, Int.reduceToNat]; (repeat refine an ?_); (try refine .inl ?_); apply k0; clear k0; simp only [zP, V])
 refine am ?_
 apply k12; clear k12; refine kp [0, 1, 4, 5, 6, 7, 8, 15] ?_
 refine aF ?_
 refine ⟨nr, _, rfl, ?_⟩; simp only [zF, zP, aa, V, cM, Int.toNat_one, Int.reducePow, Int.reduceToNat]
 refine VLE.of_eq ?_
 simp only [hgz]
 simp [hlz, ← hpz, o3]
set_option maxHeartbeats 2500000 in
theorem pf (m : Mly) (x : Value) (ini cur : List Int) (a : Int) (hm : MOK m) (hs : cK m cur) (ha : 0 ≤ a ∧ a < m.inp) (h0 : 0 < cur.length) (hl : cur.length ≤ 1000) (hil : ini.length = cur.length) (L0 : List AO) (m0 : Nat) (hm0 : L0[m0]? = some (.vars 62 [.int .i64 m.inp, .int .i64 m.st, .list (.list (.int .i64)) m.nx, .list (.list (.int .i64)) m.ot, .exact x])) : ep Try.prog L0 53 (List.map (mv1 m0) [.one (.ptr 0 0 0 0), .agg [.list (.int .i64) ini, .list (.int .i64) cur], .one (.int .i64 a)]) { av := .tup [.one (.list (.int .i64) (aC (ouL m cur a))), .one (.list (.pair (.list (.int .i64)) (.pair (.list (.int .i64)) .unit)) (lV m ini cur a (aC (ouL m cur a))))], upd := [(m0, .vars 62 [.int .i64 m.inp, .int .i64 m.st, .list (.list (.int .i64)) m.nx, .list (.list (.int .i64)) m.ot, .exact x])], fp := [m0] } := by
 have ol := hm.ol
 have hkl := fP (ouL m cur a)
 have hol : (ouL m cur a).length = cur.length := aD ..
 have hor := (dn (ouL m cur a)).1
 have hk0 := vj (xs := ouL m cur a) (by omega)
 refine pF Try.func53 rfl (by kernel_rfl) (Nat.le_of_ble_eq_true rfl) rfl rfl (fun C hP hN hB => ?_) L0 m0 hm0
 replace hN : C.N = 106 := hN
 simp only [bf, V]
 refine ai fun _ k1 => ?_
 refine ak hP hN rfl ?_
 iterate 3 (refine aj rfl fun _ k0 => ?_; simp only [zO, zT, acs, reduceCtorEq, aa, V, ad, ag, af, ae, ah]; (repeat refine an ?_); (try refine .inl ?_); apply k0; clear k0; simp only [zP, V])
 refine am ?_
 apply k1; clear k1; refine kp [0, 1, 2, 4, 6, 7] ?_
 refine ai fun _ k2 => ?_
 refine ak hP hN rfl ?_
 (refine aj rfl fun _ k0 => ?_; simp only [zO, zT, acs, reduceCtorEq, aa, V, ad, ag, af, ae, ah]; (repeat refine an ?_); (try refine .inl ?_); apply k0; clear k0; simp only [zP, V])
 refine am ?_
 apply k2; clear k2; refine kp [0, 1, 2, 4, 6, 7, 8] ?_
 refine ai fun _ k3 => ?_
 refine ai fun _ k4 => ?_
 refine ak hP hN rfl ?_
 iterate 4 (refine aj rfl fun _ k0 => ?_; simp only [zO, zT, acs, reduceCtorEq, aa, V, ad, ag, af, ae, ah]; (repeat refine an ?_); (try refine .inl ?_); apply k0; clear k0; simp only [zP, V])
 refine am ?_
 apply k4; clear k4; refine kp [0, 1, 2, 4, 6, 7, 8, 18, 19, 20] ?_
 refine aA ?_
 refine dZ 8 (.int .i64) 3 (by decide) rfl ?_; simp only [au, aG, aM, b6, Nat.zero_add, V]
 refine aY (fun n5 s5 => ∃ (i : Nat) (v : Nat), (i ≤ cur.length) ∧ n5 = cur.length - i ∧ s5 = { env := [(0, .one (.ptr 0 0 0 0)), (2, .one (.int .i64 a)), (4, .one (.ptr 1 0 0 0)), (6, .one .nils), (7, .one .nils), (8, .one (.row 2 v)), (18, .one (.list (.int .i64) cur)), (19, .one (.int .i64 (cur.length : Int))), (20, .one (.int .i64 (i : Int)))], L := [.vars 62 [.int .i64 m.inp, .int .i64 m.st, .list (.list (.int .i64)) m.nx, .list (.list (.int .i64)) m.ot, .exact x], .vars 66 [.list (.int .i64) ini, .list (.int .i64) cur], .row (.int .i64) 3 v (ouL m (cur.take i) a)] }) ?_ ?_
 ·exact ⟨_, _, ax [0, 2, 4, 6, 7, 8, 18, 19, 20], 0, 0, Nat.zero_le _, rfl, rfl⟩
 rintro n5 s5 ⟨i, v, hi, rfl, rfl⟩
 refine ai fun _ k6 => ?_
 refine ak hP hN rfl ?_
 (refine aj rfl fun _ k0 => ?_; simp only [zO, zT, acs, reduceCtorEq, aa, V, ad, ag, af, ae, ah]; (repeat refine an ?_); (try refine .inl ?_); apply k0; clear k0; simp only [zP, V])
 refine am ?_
 apply k6; clear k6; refine kp [0, 2, 4, 6, 7, 8, 18, 19, 20, 21] ?_
 refine ai fun _ k7 => ?_
 refine cd (fun hc8 => ?_) (fun hc8 => ?_)
 ·(try simp only [zB, reduceCtorEq] at hc8)
  refine ay ?_
  apply k7; clear k7; refine kp [0, 2, 4, 6, 7, 8, 18, 19, 20, 21] ?_
  refine ai fun _ k9 => ?_
  refine aA ?_
  refine ai fun _ k10 => ?_
  refine ak hP hN rfl ?_
  iterate 3 (refine aj rfl fun _ k0 => ?_; simp only [zO, zT, acs, reduceCtorEq, aa, V, ad, ag, af, ae, ah]; (repeat refine an ?_); (try refine .inl ?_); apply k0; clear k0; simp only [zP, V])
  refine am ?_
  apply k10; clear k10; refine kp [0, 2, 4, 6, 7, 8, 10, 18, 19, 20, 21] ?_
  have hsk := hs _ (bl (w := cur) (i := i) (by omega))
  have q2 := hm.ql (cur.getD i 0).toNat (by omega)
  have hnl : (ouL m (cur.take i) a).length = i := by unfold ouL; rw [aD, List.length_take]; omega
  refine ak hP hN rfl ?_
  iterate 15 (refine aj rfl fun _ k0 => ?_; simp only [zO, zT, acs, reduceCtorEq, aa, V, ad, ag, af, ae, ah]; (repeat refine an ?_); (try refine .inl ?_); apply k0; clear k0; simp only [zP, V])
  refine am ?_
  apply k9; clear k9; refine kp [0, 2, 4, 6, 7, 8, 10, 18, 19, 20, 21] ?_
  refine ak hP hN rfl ?_
  iterate 2 (refine aj rfl fun _ k0 => ?_; simp only [zO, zT, acs, reduceCtorEq, aa, V, ad, ag, af, ae, ah]; (repeat refine an ?_); (try refine .inl ?_); apply k0; clear k0; simp only [zP, V])
  refine am ?_
  refine ⟨_, _, ?_, ax [0, 2, 4, 6, 7, 8, 18, 19, 20], i + 1, v + 1, by omega, rfl, ?_⟩
  · omega
  · rw [gR (by omega)]; rfl
 (try simp only [zB, reduceCtorEq] at hc8)
 refine aV ?_
 apply k3; clear k3; refine kp [0, 2, 4, 6, 7, 8, 18, 19, 20, 21] ?_
 refine ai fun _ k11 => ?_
 refine cq 2 rfl ?_; simp only [aH, bh, zS, aa, and_self, and_true, true_and, and_false, false_and, if_true, if_false, eq_self, reduceCtorEq, Nat.one_ne_zero, Nat.zero_ne_one]
 have hkw : i = cur.length := by omega
 rw [hkw, aI]
 refine cP (n := 2) (L1 := [_, _]) rfl rfl (by rw [hB]; simp) rfl rfl ?_
 refine ak hP hN rfl ?_
 (refine aj rfl fun _ k0 => ?_; simp only [zO, zT, acs, reduceCtorEq, aa, V, ad, ag, af, ae, ah]; (repeat refine an ?_); (try refine .inl ?_); apply k0; clear k0; simp only [zP, V])
 refine aj rfl fun _ k0 => ?_
 refine aK (h := lp (mR (ouL m cur a) (by omega) (by omega))) rfl rfl (by first | exact rfl | (simp only [ev, zP, aa, V]; exact rfl)) (by simp only [zV, acs, reduceCtorEq, aa, V, ad, ag, af, ae, ah]) ?_
 apply k0; clear k0; simp only [zP, V]
 (refine aj rfl fun _ k0 => ?_; simp only [zO, zT, acs, reduceCtorEq, aa, V, ad, ag, af, ae, ah]; (repeat refine an ?_); (try refine .inl ?_); apply k0; clear k0; simp only [zP, V])
 refine am ?_
 apply k11; clear k11; refine kp [0, 2, 4, 6, 7, 8, 11, 18, 19, 20, 21] ?_
 refine ai fun _ k12 => ?_
 refine ak hP hN rfl ?_
 (refine aj rfl fun _ k0 => ?_; simp only [zO, zT, acs, reduceCtorEq, aa, V, ad, ag, af, ae, ah]; (repeat refine an ?_); (try refine .inl ?_); apply k0; clear k0; simp only [zP, V])
 refine aj rfl fun _ k0 => ?_
 refine aK (h := oS (k := 2) (ver := 0) (xs := ouL m cur a) ta rfl (by omega) (by omega)) rfl rfl (by first | exact rfl | (simp only [ev, zP, aa, V]; exact rfl)) (by simp only [zV, acs, reduceCtorEq, aa, V, ad, ag, af, ae, ah]) ?_
 apply k0; clear k0; simp only [zP, V]
 refine am ?_
 apply k12; clear k12; refine kp [0, 2, 4, 6, 7, 8, 11, 18, 19, 20, 21] ?_
 refine ai fun _ k13 => ?_
 refine ak hP hN rfl ?_
 (refine aj rfl fun _ k0 => ?_; simp only [zO, zT, acs, reduceCtorEq, aa, V, ad, ag, af, ae, ah]; (repeat refine an ?_); (try refine .inl ?_); apply k0; clear k0; simp only [zP, V])
 refine aj rfl fun _ k0 => ?_
 refine aK (h := kM (k := 2) (ver := 0) (xs := gN (ouL m cur a)) nn rfl (by rw [gT]; omega) (by rw [gT]; omega) iZ) rfl rfl (by first | exact rfl | (simp only [ev, zP, aa, V]; exact rfl)) (by simp only [zV, acs, reduceCtorEq, aa, V, ad, ag, af, ae, ah]) ?_
 apply k0; clear k0; simp only [zP, V]
 (refine aj rfl fun _ k0 => ?_; simp only [zO, zT, acs, reduceCtorEq, aa, V, ad, ag, af, ae, ah]; (repeat refine an ?_); (try refine .inl ?_); apply k0; clear k0; simp only [zP, V])
 refine am ?_
 apply k13; clear k13; refine kp [0, 2, 4, 6, 7, 8, 11, 18, 19, 20, 21] ?_
 refine ai fun _ k14 => ?_
 refine cq 2 rfl ?_; simp only [aH, bh, zS, aa, and_self, and_true, true_and, and_false, false_and, if_true, if_false, eq_self, reduceCtorEq, Nat.one_ne_zero, Nat.zero_ne_one]
 rw [show Lib.compact (gN (ouL m cur a)) = (aC (ouL m cur a)) from rfl]
 refine ak hP hN rfl ?_
 iterate 2 (refine aj rfl fun _ k0 => ?_; simp only [zO, zT, acs, reduceCtorEq, aa, V, ad, ag, af, ae, ah]; (repeat refine an ?_); (try refine .inl ?_); apply k0; clear k0; simp only [zP, V])
 (refine aj rfl fun _ k0 => ?_; simp only [zE, op1, ev, lkp, cY, bK, cQ, br, Ty.size, Ty.dflt, reduceCtorEq, aa, V, ad, ag, af, ae, Try.el91, Try.td91, ah]; (repeat refine an ?_); refine Or.inr (Or.inl (k0 _ ?_)); clear k0; simp only [zP, V])
 (refine aj rfl fun _ k0 => ?_; simp only [zO, zT, acs, reduceCtorEq, aa, V, ad, ag, af, ae, ah]; (repeat refine an ?_); (try refine .inl ?_); apply k0; clear k0; simp only [zP, V])
 refine am ?_
 apply k14; clear k14; refine kp [0, 2, 4, 6, 7, 8, 11, 12, 18, 19, 20, 21] ?_
 refine ai fun _ k15 => ?_
 refine ai fun _ k16 => ?_
 refine ak hP hN rfl ?_
 iterate 3 (refine aj rfl fun _ k0 => ?_; simp only [zO, zT, acs, reduceCtorEq, aa, V, ad, ag, af, ae, ah]; (repeat refine an ?_); (try refine .inl ?_); apply k0; clear k0; simp only [zP, V])
 refine am ?_
 apply k16; clear k16; refine kp [0, 2, 4, 6, 7, 8, 11, 12, 18, 19, 20, 21, 48, 49, 50] ?_
 refine aA ?_
 refine jF 3 3 (T := 66) (sz := 2) (v := 0) (2 * (aC (ouL m cur a)).length) _ [] (by rw [← oy]; rfl) ?_
 rw [← wa m ini cur a (aC (ouL m cur a)), hol]
 simp only [cm, cD, au, aG, Nat.zero_add, V, b6, aM]
 refine aY (fun n17 s17 => ∃ (i : Nat), (i ≤ cur.length) ∧ n17 = cur.length - i ∧ s17 = { env := [(0, .one (.ptr 0 0 0 0)), (2, .one (.int .i64 a)), (4, .one (.ptr 1 0 0 0)), (6, .one .nils), (7, .one .nils), (11, .one (.list (.int .i64) (aC (ouL m cur a)))), (12, .one (.rwc 3 0)), (48, .one (.list (.int .i64) (ouL m cur a))), (49, .one (.int .i64 (cur.length : Int))), (50, .one (.int .i64 (i : Int)))], L := .vars 62 [.int .i64 m.inp, .int .i64 m.st, .list (.list (.int .i64)) m.nx, .list (.list (.int .i64)) m.ot, .exact x] :: .vars 66 [.list (.int .i64) ini, .list (.int .i64) cur] :: .dead 1 :: .rowc 66 2 0 (bY 4 (dJ m ini cur a i (aC (ouL m cur a)))) :: dH 3 (dJ m ini cur a i (aC (ouL m cur a))) }) ?_ ?_
 ·refine ⟨_, _, ax [0, 2, 4, 6, 7, 11, 12, 48, 49, 50], 0, Nat.zero_le _, rfl, ?_⟩
  rfl
 rintro n17 s17 ⟨i, hi, rfl, rfl⟩
 refine ai fun _ k18 => ?_
 refine ak hP hN rfl ?_
 (refine aj rfl fun _ k0 => ?_; simp only [zO, zT, acs, reduceCtorEq, aa, V, ad, ag, af, ae, ah]; (repeat refine an ?_); (try refine .inl ?_); apply k0; clear k0; simp only [zP, V])
 refine am ?_
 apply k18; clear k18; refine kp [0, 2, 4, 6, 7, 11, 12, 48, 49, 50, 51] ?_
 refine ai fun _ k19 => ?_
 refine cd (fun hc20 => ?_) (fun hc20 => ?_)
 ·(try simp only [zB, reduceCtorEq] at hc20)
  refine ay ?_
  apply k19; clear k19; refine kp [0, 2, 4, 6, 7, 11, 12, 48, 49, 50, 51] ?_
  refine ai fun _ k21 => ?_
  refine aA ?_
  refine ai fun _ k22 => ?_
  refine ak hP hN rfl ?_
  iterate 5 (refine aj rfl fun _ k0 => ?_; simp only [zO, zT, acs, reduceCtorEq, aa, V, ad, ag, af, ae, ah]; (repeat refine an ?_); (try refine .inl ?_); apply k0; clear k0; simp only [zP, V])
  refine am ?_
  apply k22; clear k22; refine kp [0, 2, 4, 6, 7, 11, 12, 13, 14, 48, 49, 50, 51] ?_
  refine ai fun _ k23 => ?_
  have hgo : (ouL m cur a).getD i 0 = m.out (cur.getD i 0) a := by unfold ouL; simp [List.getD, show i < cur.length by omega]
  have hin : m.out (cur.getD i 0) a ∈ (aC (ouL m cur a)) := by rw [← hgo]; exact ((dn (ouL m cur a)).2 _).2 (bl (by omega))
  rw [hgo]
  refine ak hP hN rfl ?_
  iterate 2 (refine aj rfl fun _ k0 => ?_; simp only [zO, zT, acs, reduceCtorEq, aa, V, ad, ag, af, ae, ah]; (repeat refine an ?_); (try refine .inl ?_); apply k0; clear k0; simp only [zP, V])
  refine aj rfl fun _ k0 => ?_
  refine aK (h := aE (vm (aC (ouL m cur a)) (m.out (cur.getD i 0) a) hor hin (by omega))) rfl rfl (by first | exact rfl | (simp only [ev, zP, aa, V]; exact rfl)) (by simp only [zV, acs, reduceCtorEq, aa, V, ad, ag, af, ae, ah]) ?_
  apply k0; clear k0; simp only [zP, V]
  iterate 5 (refine aj rfl fun _ k0 => ?_; simp only [zO, zT, acs, reduceCtorEq, aa, V, ad, ag, af, ae, ah]; (repeat refine an ?_); (try refine .inl ?_); apply k0; clear k0; simp only [zP, V])
  refine am ?_
  apply k23; clear k23; refine kp [0, 2, 4, 6, 7, 11, 12, 13, 14, 15, 48, 49, 50, 51] ?_
  refine ai fun _ k24 => ?_
  obtain ⟨k, hkd⟩ : ∃ k, k = pos (aC (ouL m cur a)) (m.out (cur.getD i 0) a) := ⟨_, rfl⟩
  rw [← hkd]
  have hkl9 : k < (aC (ouL m cur a)).length := by rw [hkd]; exact gP hin
  have hko : m.out (cur.getD i 0) a = (aC (ouL m cur a)).getD k 0 := by rw [hkd]; exact (kX hin).symm
  have hFl : (dJ m ini cur a i (aC (ouL m cur a))).length = 2 * (aC (ouL m cur a)).length := mD ..
  have hg0 : (dJ m ini cur a i (aC (ouL m cur a))).getD (k * 2) [] = (bV m ini cur a i ((aC (ouL m cur a)).getD k 0)) := by rw [Nat.mul_comm]; exact qf hkl9
  have hc0 : (bY 4 (dJ m ini cur a i (aC (ouL m cur a)))).getD (k * 2) .junk = .row (k * 2 + 1 + 1 + 1 + 1) (bV m ini cur a i ((aC (ouL m cur a)).getD k 0)).length := by rw [qC4 (by omega), hg0]
  have hr0 : (dH 3 (dJ m ini cur a i (aC (ouL m cur a))))[k * 2]? = some (.row (.int .i64) 3 (bV m ini cur a i ((aC (ouL m cur a)).getD k 0)).length (bV m ini cur a i ((aC (ouL m cur a)).getD k 0))) := by rw [oK (by omega), hg0]
  have hgl : ((bV m ini cur a i ((aC (ouL m cur a)).getD k 0)) ++ [ini.getD i 0]).length = (bV m ini cur a i ((aC (ouL m cur a)).getD k 0)).length + 1 := aq
  have hw0 : bI (bY 4 (dJ m ini cur a i (aC (ouL m cur a)))) (k * 2) [.row (k * 2 + 1 + 1 + 1 + 1) ((bV m ini cur a i ((aC (ouL m cur a)).getD k 0)).length + 1)] = bY 4 ((dJ m ini cur a i (aC (ouL m cur a))).set (k * 2) (bV m ini cur a i ((aC (ouL m cur a)).getD k 0) ++ [ini.getD i 0])) := by rw [← hgl]; exact qW4 (by omega)
  have hs0 : (dH 3 (dJ m ini cur a i (aC (ouL m cur a)))).set (k * 2) (.row (.int .i64) 3 ((bV m ini cur a i ((aC (ouL m cur a)).getD k 0)).length + 1) ((bV m ini cur a i ((aC (ouL m cur a)).getD k 0)) ++ [ini.getD i 0])) = dH 3 ((dJ m ini cur a i (aC (ouL m cur a))).set (k * 2) (bV m ini cur a i ((aC (ouL m cur a)).getD k 0) ++ [ini.getD i 0])) := by rw [← hgl]; exact p6
  have hgll : (bV m ini cur a i ((aC (ouL m cur a)).getD k 0)).length ≤ i := zR
  refine bn hP hN Try.mixed rfl ?_
  iterate 17 (refine aj rfl fun _ k0 => ?_; simp only [zE, op1, ev, lkp, cY, bK, cA, zG, Ty.dflt, Ty.size, Nat.mul_one, ne_eq, not_false_eq_true, Int.natCast_one, Int.mul_one, bM, d7, bS, cL, acs, bZ, dt, cb, dj, rep, br, ci, cj, eW, dW, cE, cW, eh, Nat.div_one, cH, d5, dite_true, dY, reduceCtorEq, aa, V, ad, ag, af, ae, Try.el41, Try.el91, Try.st66, Try.td1, Try.td3, Try.td41, Try.td66, Try.td91, ah, hc0, hr0, ig, hFl, Nat.add_zero]; (repeat refine an ?_); (try refine .inl ?_); apply k0; clear k0; simp only [zP, V, hw0, hs0, Nat.add_zero])
  refine am ?_
  refine ⟨by exact qe (tY (k * 2)) [([], [], 0), ([], [], 0), ([], [], 0), ([], [], 0), ([], [3], 0), ([], [3], 0), ([], [3], 0), ([], [1], 0), ([], [1], 0), ([], [], 0), ([], [], 0), ([], [], 0), ([], [], 0), ([4], [4], 0), ([], [3], 0), ([], [3], 0), ([3], [3], 0)] (by kernel_rfl), ?_⟩
  apply k24; clear k24; refine kp [0, 2, 4, 6, 7, 11, 12, 13, 14, 15, 48, 49, 50, 51] ?_
  have hsk := hs _ (bl (w := cur) (i := i) (by omega))
  have q1 := hm.rl (cur.getD i 0).toNat (by omega)
  have hF1l : ((dJ m ini cur a i (aC (ouL m cur a))).set (k * 2) (bV m ini cur a i ((aC (ouL m cur a)).getD k 0) ++ [ini.getD i 0])).length = 2 * (aC (ouL m cur a)).length := by rw [List.length_set]; exact hFl
  have hg1 : ((dJ m ini cur a i (aC (ouL m cur a))).set (k * 2) (bV m ini cur a i ((aC (ouL m cur a)).getD k 0) ++ [ini.getD i 0])).getD (k * 2 + 1) [] = (bB m cur a i ((aC (ouL m cur a)).getD k 0)) := by rw [vR (by omega), Nat.mul_comm]; exact ph hkl9
  have hc1 : (bY 4 ((dJ m ini cur a i (aC (ouL m cur a))).set (k * 2) (bV m ini cur a i ((aC (ouL m cur a)).getD k 0) ++ [ini.getD i 0]))).getD (k * 2 + 1) .junk = .row (k * 2 + 1 + 1 + 1 + 1 + 1) (bB m cur a i ((aC (ouL m cur a)).getD k 0)).length := by rw [qC4 (by omega), hg1]
  have hr1 : (dH 3 ((dJ m ini cur a i (aC (ouL m cur a))).set (k * 2) (bV m ini cur a i ((aC (ouL m cur a)).getD k 0) ++ [ini.getD i 0])))[k * 2 + 1]? = some (.row (.int .i64) 3 (bB m cur a i ((aC (ouL m cur a)).getD k 0)).length (bB m cur a i ((aC (ouL m cur a)).getD k 0))) := by rw [oK (by omega), hg1]
  have hhl : ((bB m cur a i ((aC (ouL m cur a)).getD k 0)) ++ [m.nxt (cur.getD i 0) a]).length = (bB m cur a i ((aC (ouL m cur a)).getD k 0)).length + 1 := aq
  have hst9 : ((dJ m ini cur a i (aC (ouL m cur a))).set (k * 2) (bV m ini cur a i ((aC (ouL m cur a)).getD k 0) ++ [ini.getD i 0])).set (k * 2 + 1) ((bB m cur a i ((aC (ouL m cur a)).getD k 0)) ++ [m.nxt (cur.getD i 0) a]) = dJ m ini cur a (i + 1) (aC (ouL m cur a)) := by rw [Nat.mul_comm k 2]; exact (oq hor hkl9 hko).symm
  have hw1 : bI (bY 4 ((dJ m ini cur a i (aC (ouL m cur a))).set (k * 2) (bV m ini cur a i ((aC (ouL m cur a)).getD k 0) ++ [ini.getD i 0]))) (k * 2 + 1) [.row (k * 2 + 1 + 1 + 1 + 1 + 1) ((bB m cur a i ((aC (ouL m cur a)).getD k 0)).length + 1)] = bY 4 (dJ m ini cur a (i + 1) (aC (ouL m cur a))) := by rw [← hhl, ← hst9]; exact qW4 (by omega)
  have hs1 : (dH 3 ((dJ m ini cur a i (aC (ouL m cur a))).set (k * 2) (bV m ini cur a i ((aC (ouL m cur a)).getD k 0) ++ [ini.getD i 0]))).set (k * 2 + 1) (.row (.int .i64) 3 ((bB m cur a i ((aC (ouL m cur a)).getD k 0)).length + 1) ((bB m cur a i ((aC (ouL m cur a)).getD k 0)) ++ [(m.nx.getD (cur.getD i 0).toNat []).getD a.toNat 0])) = dH 3 (dJ m ini cur a (i + 1) (aC (ouL m cur a))) := by rw [← hhl, ← hst9]; exact p6
  have hcll : (bB m cur a i ((aC (ouL m cur a)).getD k 0)).length ≤ i := lQ
  refine bn hP hN Try.mixed rfl ?_
  iterate 27 (refine aj rfl fun _ k0 => ?_; simp only [zE, op1, ev, lkp, cY, bK, cA, zG, Ty.dflt, Ty.size, Nat.mul_one, ne_eq, not_false_eq_true, Int.natCast_one, Int.mul_one, bM, d7, bS, cL, acs, bZ, iB, dt, cb, dj, rep, br, ci, cj, eW, dW, cE, cW, eh, Nat.div_one, cH, d5, dite_true, dY, reduceCtorEq, aa, V, ad, ag, af, ae, Try.el22, Try.el41, Try.el91, Try.st24, Try.st62, Try.st66, Try.td1, Try.td2, Try.td22, Try.td24, Try.td3, Try.td41, Try.td60, Try.td62, Try.td66, Try.td91, ah, hc1, hr1, ig, hF1l]; (repeat refine an ?_); (try refine .inl ?_); apply k0; clear k0; simp only [zP, V, hw1, hs1])
  refine am ?_
  refine ⟨by exact qe (tY (k * 2 + 1)) [([], [], 0), ([], [], 0), ([], [], 0), ([], [], 0), ([], [3], 0), ([], [3], 0), ([], [3], 0), ([], [], 0), ([], [0], 0), ([], [0], 0), ([], [0], 0), ([], [0], 0), ([], [1], 0), ([], [1], 0), ([], [], 0), ([], [], 0), ([], [], 0), ([], [], 0), ([], [], 0), ([], [], 0), ([], [], 0), ([], [], 0), ([], [], 0), ([4], [4], 0), ([], [3], 0), ([], [3], 0), ([3], [3], 0)] (by kernel_rfl), ?_⟩
  apply k21; clear k21; refine kp [0, 2, 4, 6, 7, 11, 12, 13, 14, 15, 48, 49, 50, 51] ?_
  refine ak hP hN rfl ?_
  iterate 2 (refine aj rfl fun _ k0 => ?_; simp only [zO, zT, acs, reduceCtorEq, aa, V, ad, ag, af, ae, ah]; (repeat refine an ?_); (try refine .inl ?_); apply k0; clear k0; simp only [zP, V])
  refine am ?_
  refine ⟨_, _, ?_, ax [0, 2, 4, 6, 7, 11, 12, 48, 49, 50], i + 1, by omega, rfl, rfl⟩
  omega
 (try simp only [zB, reduceCtorEq] at hc20)
 refine aV ?_
 apply k15; clear k15; refine kp [0, 2, 4, 6, 7, 11, 12, 48, 49, 50, 51] ?_
 refine ai fun _ k25 => ?_
 have hkw : i = cur.length := by omega
 rw [hkw]
 refine kN 3 (T := 66) (sz := 2) (v := 0) _ [_, _, _, _] [] rfl (fun c h => by cases h) rfl fun dd hdd => ?_
 simp only [cm, cD, b6, aM]
 have hgl2 : (lV m ini cur a (aC (ouL m cur a))).length = (aC (ouL m cur a)).length := aD ..
 refine qn 12 3 (.pair (.list (.int .i64)) (.pair (.list (.int .i64)) .unit)) (aC (ouL m cur a)).length rfl rfl (by rw [rN, ← hgl2]; exact l9 _ _) (by rw [aD, mD]; show _ = _ * 2; omega) ?_
 simp only [cm, cD]
 refine cq 3 rfl ?_; simp only [aH, bh, zS, aa, and_self, and_true, true_and, and_false, false_and, if_true, if_false, eq_self, reduceCtorEq, Nat.one_ne_zero, Nat.zero_ne_one]
 refine ak hP hN rfl ?_
 iterate 4 (refine aj rfl fun _ k0 => ?_; simp only [zO, zT, acs, reduceCtorEq, aa, V, ad, ag, af, ae, ah]; (repeat refine an ?_); (try refine .inl ?_); apply k0; clear k0; simp only [zP, V])
 refine am ?_
 apply k25; clear k25; refine kp [0, 2, 4, 6, 7, 11, 12, 48, 49, 50, 51] ?_
 refine aF ?_
 refine ⟨by first | exact .inl rfl | exact .inr rfl, _, rfl, _, _, rfl, ?_, ?_⟩ <;> simp only [fzV, fz1, fzC, aH, bh, zP, aa, V, ah]
 all_goals rfl
end Go.Proofs.Ytoahhklogohehaa
