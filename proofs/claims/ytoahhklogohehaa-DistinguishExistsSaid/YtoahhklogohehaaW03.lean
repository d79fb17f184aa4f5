/- Contracts of functions of this seat, each out of a walk through its code, and plain facts on what they compute. Conditions: those that each theorem names. -/
import Derived.Test.YtoahhklogohehaaW02
set_option linter.unusedSimpArgs false
set_option linter.unusedVariables false
set_option maxRecDepth 100000
namespace Go.Proofs.Ytoahhklogohehaa
open Go Go.AV
open Nat renaming reduceEqDiff → aa, reduceAdd → V, reduceLeDiff → ad, reduceLT → ag, reduceMul → af, reduceSub → ae
open List renaming set_cons_zero → cE, set_cons_succ → ci, getD_cons_zero → ar, length_append → aq, map_cons → aF, cons_append → aM, map_nil → bl, length_cons → au, nil_append → ba, take_succ_cons → dD, length_nil → aE, length_map → az, length_replicate → bh, take_length → aJ, mem_cons_self → aH, mem_cons_of_mem → aG
open Int renaming toNat_natCast → ah
theorem yf (m : Mly) (cl : List Int) (hm : MOK m) (hl : cl.length = m.nx.length) (hr : ∀ s, s < m.nx.length → 0 ≤ cl.getD s 0 ∧ cl.getD s 0 < m.nx.length) : bZ Try.prog 108 [m.av, .one (.list (.int .i64) cl)] (.tup [.one (.list (.int .i64) (m.nextL cl)), .one (.int .i64 (m.nextN cl))]) := by
 have hn2 := hm.n2; have hi2 := hm.i2; have hi1 := hm.i1; have hol := hm.ol
 refine aU Try.func108 rfl (by kernel_rfl) (Nat.le_of_ble_eq_true rfl) rfl fun C hP hN hB => ?_
 replace hN : C.N = 73 := hN
 simp only [bg, V]
 refine ai fun _ k1 => ?_
 refine ak hP hN rfl ?_
 iterate 3 (refine aj rfl fun _ k0 => ?_; simp only [zO, zT, acs, reduceCtorEq, aa, V, ad, ag, af, ae, Mly.av, bu, bD, bo, bC, bv, List.length_set]; (repeat refine an ?_); (try refine .inl ?_); apply k0; clear k0; simp only [zP, V])
 refine am ?_
 apply k1; clear k1; refine kp [0, 1, 2, 4, 5] ?_
 refine ai fun _ k2 => ?_
 refine ak hP hN rfl ?_
 (refine aj rfl fun _ k0 => ?_; simp only [zE, op1, ev, lkp, d5, bQ, j7, reduceCtorEq, aa, V, ad, ag, af, ae, Try.mk157, Mly.av, bu, bD, bo, bC, bv, List.length_set]; (repeat refine an ?_); (try refine .inl ?_); apply k0; clear k0; simp only [zP, V])
 (refine aj rfl fun _ k0 => ?_; simp only [zO, zT, acs, reduceCtorEq, aa, V, ad, ag, af, ae, Mly.av, bu, bD, bo, bC, bv, List.length_set]; (repeat refine an ?_); (try refine .inl ?_); apply k0; clear k0; simp only [zP, V])
 refine am ?_
 apply k2; clear k2; refine kp [0, 1, 2, 4, 5, 6] ?_
 refine ai fun _ k3 => ?_
 refine ak hP hN rfl ?_
 iterate 2 (refine aj rfl fun _ k0 => ?_; simp only [zO, zT, acs, reduceCtorEq, aa, V, ad, ag, af, ae, Mly.av, bu, bD, bo, bC, bv, List.length_set]; (repeat refine an ?_); (try refine .inl ?_); apply k0; clear k0; simp only [zP, V])
 (refine aj rfl fun _ k0 => ?_; simp only [zE, op1, ev, lkp, d5, bQ, cr, fo, ew, cK, d7, eE, Nat.div_one, cR, df, Ty.size, br, dite_true, cQ, Ty.dflt, reduceCtorEq, aa, V, ad, ag, af, ae, Try.el41, Try.td3, Try.td41, Mly.av, bu, bD, bo, bC, bv, List.length_set]; (repeat refine an ?_); (try refine .inl ?_); apply k0; clear k0; simp only [zP, V])
 (refine aj rfl fun _ k0 => ?_; simp only [zO, zT, acs, reduceCtorEq, aa, V, ad, ag, af, ae, Mly.av, bu, bD, bo, bC, bv, List.length_set]; (repeat refine an ?_); (try refine .inl ?_); apply k0; clear k0; simp only [zP, V])
 refine am ?_
 apply k3; clear k3; refine kp [0, 1, 2, 4, 5, 6, 7] ?_
 refine ai fun _ k4 => ?_
 refine ai fun _ k5 => ?_
 refine ak hP hN rfl ?_
 iterate 3 (refine aj rfl fun _ k0 => ?_; simp only [zO, zT, acs, reduceCtorEq, aa, V, ad, ag, af, ae, Mly.av, bu, bD, bo, bC, bv, List.length_set]; (repeat refine an ?_); (try refine .inl ?_); apply k0; clear k0; simp only [zP, V])
 refine am ?_
 apply k5; clear k5; refine kp [0, 1, 2, 4, 5, 6, 7, 18, 19] ?_
 refine ay ?_
 refine bb (fun n6 s6 => ∃ (k : Nat), (k ≤ m.nx.length) ∧ n6 = m.nx.length - k ∧ s6 = { env := [(1, .one (.list (.int .i64) cl)), (2, .one (.ptr 0 0 0 0)), (6, .one (.mpv 1)), (7, .one (.row 2 0)), (18, .one (.int .i64 (cl.length : Int))), (19, .one (.int .i64 (k : Int)))], L := [.vars 24 [.int .i64 m.inp, .int .i64 m.st, .list (.list (.int .i64)) m.nx, .list (.list (.int .i64)) m.ot], .mp 157 .int (ny (cV (m.sig cl) k)), .row (.int .i64) 3 0 (jF (fun s => (pos (cV (m.sig cl) m.nx.length) (m.sig cl s) : Int)) 0 m.nx.length k)] }) ?_ ?_
 ·refine ⟨_, _, aw [1, 2, 6, 7, 18, 19], 0, Nat.zero_le _, rfl, ?_⟩
  rw [vr, hl]; rfl
 rintro n6 s6 ⟨k, hk, rfl, rfl⟩
 refine ai fun _ k7 => ?_
 refine ak hP hN rfl ?_
 (refine aj rfl fun _ k0 => ?_; simp only [zO, zT, acs, reduceCtorEq, aa, V, ad, ag, af, ae, Mly.av, bu, bD, bo, bC, bv, List.length_set]; (repeat refine an ?_); (try refine .inl ?_); apply k0; clear k0; simp only [zP, V])
 refine am ?_
 apply k7; clear k7; refine kp [1, 2, 6, 7, 18, 19, 20] ?_
 refine ai fun _ k8 => ?_
 refine cd (fun hc9 => ?_) (fun hc9 => ?_)
 ·(try simp only [zB, reduceCtorEq] at hc9)
  refine ax ?_
  apply k8; clear k8; refine kp [1, 2, 6, 7, 18, 19, 20] ?_
  refine ai fun _ k10 => ?_
  refine ay ?_
  refine ai fun _ k11 => ?_
  refine ak hP hN rfl ?_
  iterate 2 (refine aj rfl fun _ k0 => ?_; simp only [zO, zT, acs, reduceCtorEq, aa, V, ad, ag, af, ae, Mly.av, bu, bD, bo, bC, bv, List.length_set]; (repeat refine an ?_); (try refine .inl ?_); apply k0; clear k0; simp only [zP, V])
  refine am ?_
  apply k11; clear k11; refine kp [1, 2, 6, 7, 8, 18, 19, 20] ?_
  refine ai fun _ k12 => ?_
  refine ak hP hN rfl ?_
  (refine aj rfl fun _ k0 => ?_; simp only [zO, zT, acs, reduceCtorEq, aa, V, ad, ag, af, ae, Mly.av, bu, bD, bo, bC, bv, List.length_set]; (repeat refine an ?_); (try refine .inl ?_); apply k0; clear k0; simp only [zP, V])
  refine am ?_
  apply k12; clear k12; refine kp [1, 2, 6, 7, 8, 9, 18, 19, 20] ?_
  refine ai fun _ k13 => ?_
  refine ai fun _ k14 => ?_
  refine ak hP hN rfl ?_
  iterate 3 (refine aj rfl fun _ k0 => ?_; simp only [zO, zT, acs, reduceCtorEq, aa, V, ad, ag, af, ae, Mly.av, bu, bD, bo, bC, bv, List.length_set]; (repeat refine an ?_); (try refine .inl ?_); apply k0; clear k0; simp only [zP, V])
  refine am ?_
  apply k14; clear k14; refine kp [1, 2, 6, 7, 8, 9, 18, 19, 20, 23, 24] ?_
  refine ay ?_
  refine bb (fun n15 s15 => ∃ (a : Nat), ((a : Int) ≤ m.inp) ∧ n15 = m.inp.toNat - a ∧ s15 = { env := [(1, .one (.list (.int .i64) cl)), (2, .one (.ptr 0 0 0 0)), (6, .one (.mpv 1)), (7, .one (.row 2 0)), (8, .one (.int .i64 (k : Int))), (9, .one (.ptr 3 0 0 0)), (18, .one (.int .i64 (cl.length : Int))), (19, .one (.int .i64 (k : Int))), (23, .one (.int .i64 m.inp)), (24, .one (.int .i64 (a : Int)))], L := [.vars 24 [.int .i64 m.inp, .int .i64 m.st, .list (.list (.int .i64)) m.nx, .list (.list (.int .i64)) m.ot], .mp 157 .int (ny (cV (m.sig cl) k)), .row (.int .i64) 3 0 (jF (fun s => (pos (cV (m.sig cl) m.nx.length) (m.sig cl s) : Int)) 0 m.nx.length k), .vars 159 (eN (m.sigP cl a k))] }) ?_ ?_
  ·refine ⟨_, _, aw [1, 2, 6, 7, 8, 9, 18, 19, 23, 24], 0, by omega, rfl, ?_⟩
   rw [← vC, ← tS]; rfl
  rintro n15 s15 ⟨a, ha, rfl, rfl⟩
  refine ai fun _ k16 => ?_
  refine ak hP hN rfl ?_
  (refine aj rfl fun _ k0 => ?_; simp only [zO, zT, acs, reduceCtorEq, aa, V, ad, ag, af, ae, Mly.av, bu, bD, bo, bC, bv, List.length_set]; (repeat refine an ?_); (try refine .inl ?_); apply k0; clear k0; simp only [zP, V])
  refine am ?_
  apply k16; clear k16; refine kp [1, 2, 6, 7, 8, 9, 18, 19, 23, 24, 25] ?_
  refine ai fun _ k17 => ?_
  refine cd (fun hc18 => ?_) (fun hc18 => ?_)
  ·(try simp only [zB, reduceCtorEq] at hc18)
   refine ax ?_
   apply k17; clear k17; refine kp [1, 2, 6, 7, 8, 9, 18, 19, 23, 24, 25] ?_
   refine ai fun _ k19 => ?_
   refine ay ?_
   refine ai fun _ k20 => ?_
   refine ak hP hN rfl ?_
   iterate 2 (refine aj rfl fun _ k0 => ?_; simp only [zO, zT, acs, reduceCtorEq, aa, V, ad, ag, af, ae, Mly.av, bu, bD, bo, bC, bv, List.length_set]; (repeat refine an ?_); (try refine .inl ?_); apply k0; clear k0; simp only [zP, V])
   refine am ?_
   apply k20; clear k20; refine kp [1, 2, 6, 7, 8, 9, 10, 18, 19, 23, 24, 25] ?_
   refine ai fun _ k21 => ?_
   have hrl := hm.rl k (by omega); have hql := hm.ql k (by omega); have hnr := hm.nr k a (by omega) (by omega); have hw1 : ∀ v, bJ (eN (m.sigP cl a k)) a [AC.int .i64 v] = eN ((m.sigP cl a k).set a v) := fun v => ky (by rw [bD]; omega) v; have h64 : ((64 : Int) + (a : Int)).toNat = 64 + a := by omega
   refine ak hP hN rfl ?_
   iterate 11 (refine aj rfl fun _ k0 => ?_; simp only [zE, op1, ev, lkp, d5, bQ, bM, d4, Nat.mul_one, bS, cI, acs, Ty.dflt, zG, bY, cA, Ty.size, ne_eq, not_false_eq_true, Int.natCast_one, Int.mul_one, eh, cf, br, reduceCtorEq, aa, V, ad, ag, af, ae, Try.ea159, Try.el22, Try.el41, Try.sa159, Try.st24, Try.td159, Try.td22, Try.td24, Try.td3, Try.td41, Mly.av, bu, bD, bo, bC, bv, List.length_set, hw1]; (repeat refine an ?_); (try refine .inl ?_); apply k0; clear k0; simp only [zP, V])
   refine am ?_
   apply k21; clear k21; refine kp [1, 2, 6, 7, 8, 9, 10, 18, 19, 23, 24, 25] ?_
   refine ak hP hN rfl ?_
   iterate 15 (refine aj rfl fun _ k0 => ?_; simp only [zE, op1, ev, lkp, d5, bQ, iV, cT, fA, gP, eT, gz, bM, d4, Nat.mul_one, bS, cI, acs, Ty.dflt, zG, bY, cA, Ty.size, ne_eq, not_false_eq_true, Int.natCast_one, Int.mul_one, eh, cf, br, reduceCtorEq, aa, V, ad, ag, af, ae, Try.ea159, Try.el22, Try.el41, Try.sa159, Try.st24, Try.td159, Try.td2, Try.td22, Try.td24, Try.td3, Try.td41, Mly.av, bu, bD, bo, bC, bv, List.length_set, hw1, h64]; (repeat refine an ?_); (try refine .inl ?_); apply k0; clear k0; simp only [zP, V])
   refine am ?_
   apply k19; clear k19; refine kp [1, 2, 6, 7, 8, 9, 10, 18, 19, 23, 24, 25] ?_
   refine ak hP hN rfl ?_
   iterate 2 (refine aj rfl fun _ k0 => ?_; simp only [zO, zT, acs, reduceCtorEq, aa, V, ad, ag, af, ae, Mly.av, bu, bD, bo, bC, bv, List.length_set]; (repeat refine an ?_); (try refine .inl ?_); apply k0; clear k0; simp only [zP, V])
   refine am ?_
   refine ⟨_, _, ?_, aw [1, 2, 6, 7, 8, 9, 18, 19, 23, 24], a + 1, by omega, rfl, ?_⟩
   · omega
   · rw [ky (by simp [bD]; omega), xv m cl k (by omega)]; rfl
  (try simp only [zB, reduceCtorEq] at hc18)
  refine aX ?_
  apply k13; clear k13; refine kp [1, 2, 6, 7, 8, 9, 18, 19, 23, 24, 25] ?_
  refine ai fun _ k22 => ?_
  have hkey := xn hm hr (a := a) (s := k) (by omega) (by omega); have hsg : m.sigP cl a k = m.sig cl k := by unfold Mly.sig; rw [show m.inp.toNat = a by omega]
  rw [hsg] at hkey ⊢; have hdl := m5 (m.sig cl) k; have hst : (m.sig cl k).take 128 = m.sig cl k := by rw [← hsg]; exact bC _ _ _ _
  have hsl : (m.sig cl k).length = 128 := by rw [← hsg]; exact bD _ _ _ _
  have hsf := x7 (fun s => (pos (cV (m.sig cl) m.nx.length) (m.sig cl s) : Int)) 0 (n := m.nx.length) (k := k) (by omega)
  refine ak hP hN rfl ?_
  iterate 2 (refine aj rfl fun _ k0 => ?_; simp only [zO, zT, acs, reduceCtorEq, aa, V, ad, ag, af, ae, Mly.av, bu, bD, bo, bC, bv, List.length_set, hst, hsl]; (repeat refine an ?_); (try refine .inl ?_); apply k0; clear k0; simp only [zP, V])
  (refine aj rfl fun _ k0 => ?_; simp only [zE, op1, ev, lkp, d5, bQ, d4, Nat.mul_one, bS, cI, acs, Ty.dflt, zG, bY, jT, bE, VK.ac, gW, reduceCtorEq, aa, V, ad, ag, af, ae, Try.ea159, Try.mk157, Try.sa159, Try.td1, Try.td159, Try.td3, Try.td4, Mly.av, bu, bD, bo, bC, bv, List.length_set, hst, hsl]; (repeat refine an ?_); (try refine .inl ?_); apply k0; clear k0; simp only [zP, V])
  iterate 5 (refine aj rfl fun _ k0 => ?_; simp only [zO, zT, acs, reduceCtorEq, aa, V, ad, ag, af, ae, Mly.av, bu, bD, bo, bC, bv, List.length_set, hst, hsl]; (repeat refine an ?_); (try refine .inl ?_); apply k0; clear k0; simp only [zP, V])
  refine am ?_
  apply k22; clear k22; refine kp [1, 2, 6, 7, 8, 9, 11, 12, 18, 19, 23, 24, 25] ?_
  refine ai fun _ k23 => ?_
  refine ai fun _ k24 => ?_
  refine ak hP hN rfl ?_
  iterate 2 (refine aj rfl fun _ k0 => ?_; simp only [zO, zT, acs, reduceCtorEq, aa, V, ad, ag, af, ae, Mly.av, bu, bD, bo, bC, bv, List.length_set]; (repeat refine an ?_); (try refine .inl ?_); apply k0; clear k0; simp only [zP, V])
  refine am ?_
  apply k24; clear k24; refine kp [1, 2, 6, 7, 8, 9, 11, 12, 18, 19, 23, 24, 25, 59] ?_
  refine cd (fun hc25 => ?_) (fun hc25 => ?_)
  ·(try simp only [zB, reduceCtorEq] at hc25)
   refine ai fun _ k26 => ?_
   refine ak hP hN rfl ?_
   iterate 3 (refine aj rfl fun _ k0 => ?_; simp only [zO, zT, acs, reduceCtorEq, aa, V, ad, ag, af, ae, Mly.av, bu, bD, bo, bC, bv, List.length_set, rO]; (repeat refine an ?_); (try refine .inl ?_); apply k0; clear k0; simp only [zP, V])
   refine am ?_
   apply k26; clear k26; refine kp [1, 2, 6, 7, 8, 9, 11, 12, 18, 19, 23, 24, 25, 59] ?_
   refine ak hP hN rfl ?_
   iterate 3 (refine aj rfl fun _ k0 => ?_; simp only [zO, zT, acs, reduceCtorEq, aa, V, ad, ag, af, ae, Mly.av, bu, bD, bo, bC, bv, List.length_set, hst, hsl]; (repeat refine an ?_); (try refine .inl ?_); apply k0; clear k0; simp only [zP, V])
   (refine aj rfl fun _ k0 => ?_; simp only [zE, op1, ev, lkp, d5, bQ, d4, Nat.mul_one, bS, cI, acs, Ty.dflt, zG, bY, et, bE, valOf, reduceCtorEq, aa, V, ad, ag, af, ae, Try.ea159, Try.mk157, Try.sa159, Try.td159, Try.td3, Mly.av, bu, bD, bo, bC, bv, List.length_set, hst, hsl]; (repeat refine an ?_); (try refine .inl ?_); apply k0; clear k0; simp only [zP, V])
   refine am ?_
   apply k23; clear k23; refine kp [1, 2, 6, 7, 8, 9, 11, 12, 18, 19, 23, 24, 25, 59] ?_
   refine ak hP hN rfl ?_
   iterate 5 (refine aj rfl fun _ k0 => ?_; simp only [zO, zT, acs, reduceCtorEq, aa, V, ad, ag, af, ae, Mly.av, bu, bD, bo, bC, bv, List.length_set, hsf]; (repeat refine an ?_); (try refine .inl ?_); apply k0; clear k0; simp only [zP, V])
   refine am ?_
   apply k10; clear k10; refine kp [1, 2, 6, 7, 8, 9, 11, 12, 18, 19, 23, 24, 25, 59] ?_
   refine da [1, 2, 6, 7, 18, 19] ?_; simp only [cC, lkp, zE, reduceCtorEq, aa]
   refine jO 3 rfl ?_; refine cM (n := 3) (L1 := [_, _, _]) rfl rfl (by rw [hB]; decide) rfl rfl ?_
   refine ak hP hN rfl ?_
   iterate 2 (refine aj rfl fun _ k0 => ?_; simp only [zO, zT, acs, reduceCtorEq, aa, V, ad, ag, af, ae, Mly.av, bu, bD, bo, bC, bv, List.length_set]; (repeat refine an ?_); (try refine .inl ?_); apply k0; clear k0; simp only [zP, V])
   refine am ?_
   first
   | (have hin : m.sig cl k ∈ cV (m.sig cl) k := by
        false_or_by_contra; rename_i hh; rw [fE, if_neg hh] at *; simp_all
      refine ⟨_, _, ?_, aw [1, 2, 6, 7, 18, 19], k + 1, by omega, rfl, ?_⟩
      · omega
      · rw [dn, fQ hin, ← kj _ _ (by omega), mu (by omega) hin, fE, if_pos hin]; rfl)
   | (have hin : m.sig cl k ∉ cV (m.sig cl) k := by
        intro hh; rw [fE, if_pos hh] at *; simp_all
      refine ⟨_, _, ?_, aw [1, 2, 6, 7, 18, 19], k + 1, by omega, rfl, ?_⟩
      · omega
      · rw [dn, eY hin, ← kj _ _ (by omega), kg (by omega) hin, rH hin]; rfl)
  (try simp only [zB, reduceCtorEq] at hc25)
  refine ax ?_
  apply k23; clear k23; refine kp [1, 2, 6, 7, 8, 9, 11, 12, 18, 19, 23, 24, 25, 59] ?_
  refine ak hP hN rfl ?_
  iterate 5 (refine aj rfl fun _ k0 => ?_; simp only [zO, zT, acs, reduceCtorEq, aa, V, ad, ag, af, ae, Mly.av, bu, bD, bo, bC, bv, List.length_set, hsf]; (repeat refine an ?_); (try refine .inl ?_); apply k0; clear k0; simp only [zP, V])
  refine am ?_
  apply k10; clear k10; refine kp [1, 2, 6, 7, 8, 9, 11, 12, 18, 19, 23, 24, 25, 59] ?_
  refine da [1, 2, 6, 7, 18, 19] ?_; simp only [cC, lkp, zE, reduceCtorEq, aa]
  refine jO 3 rfl ?_; refine cM (n := 3) (L1 := [_, _, _]) rfl rfl (by rw [hB]; decide) rfl rfl ?_
  refine ak hP hN rfl ?_
  iterate 2 (refine aj rfl fun _ k0 => ?_; simp only [zO, zT, acs, reduceCtorEq, aa, V, ad, ag, af, ae, Mly.av, bu, bD, bo, bC, bv, List.length_set]; (repeat refine an ?_); (try refine .inl ?_); apply k0; clear k0; simp only [zP, V])
  refine am ?_
  first
  | (have hin : m.sig cl k ∈ cV (m.sig cl) k := by
       false_or_by_contra; rename_i hh; rw [fE, if_neg hh] at *; simp_all
     refine ⟨_, _, ?_, aw [1, 2, 6, 7, 18, 19], k + 1, by omega, rfl, ?_⟩
     · omega
     · rw [dn, fQ hin, ← kj _ _ (by omega), mu (by omega) hin, fE, if_pos hin]; rfl)
  | (have hin : m.sig cl k ∉ cV (m.sig cl) k := by
       intro hh; rw [fE, if_pos hh] at *; simp_all
     refine ⟨_, _, ?_, aw [1, 2, 6, 7, 18, 19], k + 1, by omega, rfl, ?_⟩
     · omega
     · rw [dn, eY hin, ← kj _ _ (by omega), kg (by omega) hin, rH hin]; rfl)
 (try simp only [zB, reduceCtorEq] at hc9)
 refine aX ?_
 apply k4; clear k4; refine kp [1, 2, 6, 7, 18, 19, 20] ?_
 refine ai fun _ k27 => ?_
 refine ak hP hN rfl ?_
 iterate 5 (refine aj rfl fun _ k0 => ?_; simp only [zO, zT, acs, reduceCtorEq, aa, V, ad, ag, af, ae, Mly.av, bu, bD, bo, bC, bv, List.length_set]; (repeat refine an ?_); (try refine .inl ?_); apply k0; clear k0; simp only [zP, V])
 refine am ?_
 apply k27; clear k27; refine kp [1, 2, 4, 5, 6, 7, 18, 19, 20] ?_
 refine aB ?_
 refine ⟨nr, _, rfl, ?_⟩; simp only [zF, zP, aa, V, Mly.av, bu, bD, bo, bC, bv, List.length_set]
 refine VLE.of_eq ?_
 have hkn : k = m.nx.length := by omega
 subst hkn
 rw [wS, rO]; rfl
theorem vL (m : Mly) (k : Int) (hm : MOK m) : bZ Try.prog 102 [m.av, .one (.int .i64 k)] (.tup [.one (.list (.int .i64) (m.refC k)), .one (.int .i64 (m.refK k))]) := by
 have hn2 := hm.n2; have hn1 := hm.n1; have hNN : ((jo m k : Nat) : Int) = min (max k 0) (m.nx.length : Int) := by unfold jo; omega
 refine aU Try.func102 rfl (by kernel_rfl) (Nat.le_of_ble_eq_true rfl) rfl fun C hP hN hB => ?_
 replace hN : C.N = 45 := hN
 simp only [bg, V]
 refine ai fun _ k1 => ?_
 refine ak hP hN rfl ?_
 iterate 3 (refine aj rfl fun _ k0 => ?_; simp only [zO, zT, acs, reduceCtorEq, aa, V, ad, ag, af, ae, Mly.av]; (repeat refine an ?_); (try refine .inl ?_); apply k0; clear k0; simp only [zP, V])
 refine am ?_
 apply k1; clear k1; refine kp [0, 1, 2, 4, 5] ?_
 refine ai fun _ k2 => ?_
 refine ak hP hN rfl ?_
 iterate 3 (refine aj rfl fun _ k0 => ?_; simp only [zO, zT, acs, reduceCtorEq, aa, V, ad, ag, af, ae, Mly.av]; (repeat refine an ?_); (try refine .inl ?_); apply k0; clear k0; simp only [zP, V])
 (refine aj rfl fun _ k0 => ?_; simp only [zE, op1, ev, lkp, d5, bQ, bM, d4, Nat.mul_one, bS, cI, acs, Ty.dflt, zG, bY, cr, fo, ew, cK, d7, eE, Nat.div_one, cR, df, Ty.size, br, dite_true, cQ, reduceCtorEq, aa, V, ad, ag, af, ae, Try.el22, Try.el41, Try.st24, Try.td2, Try.td22, Try.td24, Try.td3, Try.td41, Mly.av]; (repeat refine an ?_); (try refine .inl ?_); apply k0; clear k0; simp only [zP, V])
 iterate 2 (refine aj rfl fun _ k0 => ?_; simp only [zO, zT, acs, reduceCtorEq, aa, V, ad, ag, af, ae, Mly.av]; (repeat refine an ?_); (try refine .inl ?_); apply k0; clear k0; simp only [zP, V])
 refine am ?_
 apply k2; clear k2; refine kp [0, 1, 2, 4, 5, 6, 7] ?_
 refine ai fun _ k3 => ?_
 refine ai fun _ k4 => ?_
 refine cO 1 rfl ?_; simp only [aF, bl, zS, aa, and_self, and_true, true_and, and_false, false_and, if_true, if_false, eq_self, reduceCtorEq, Nat.one_ne_zero, Nat.zero_ne_one]
 refine ak hP hN rfl ?_
 iterate 7 (refine aj rfl fun _ k0 => ?_; simp only [zO, zT, acs, reduceCtorEq, aa, V, ad, ag, af, ae, Mly.av]; (repeat refine an ?_); (try refine .inl ?_); apply k0; clear k0; simp only [zP, V])
 refine am ?_
 apply k4; clear k4; refine kp [0, 1, 2, 4, 5, 6, 7, 20, 21] ?_
 refine ay ?_
 refine bb (fun n5 s5 => ∃ (j : Nat), (j ≤ jo m k) ∧ (∀ q, q < j → m.cnt (q + 1) ≠ m.cnt q) ∧ n5 = jo m k - j ∧ s5 = { env := [(1, .one (.int .i64 k)), (2, .one (.ptr 0 0 0 0)), (6, .one (.list (.int .i64) (m.cls j))), (7, .one (.int .i64 (m.cnt j))), (20, .one (.int .i64 (min (max k 0) (m.nx.length : Int)))), (21, .one (.int .i64 (j : Int)))], L := [.vars 24 [.int .i64 m.inp, .int .i64 m.st, .list (.list (.int .i64)) m.nx, .list (.list (.int .i64)) m.ot], .dead 0] }) ?_ ?_
 ·refine ⟨_, _, aw [1, 2, 6, 7, 20, 21], 0, Nat.zero_le _, fun q hq => by omega, rfl, rfl⟩
 rintro n5 s5 ⟨j, hj, hq, rfl, rfl⟩
 refine ai fun _ k6 => ?_
 refine ak hP hN rfl ?_
 (refine aj rfl fun _ k0 => ?_; simp only [zO, zT, acs, reduceCtorEq, aa, V, ad, ag, af, ae, Mly.av]; (repeat refine an ?_); (try refine .inl ?_); apply k0; clear k0; simp only [zP, V])
 refine am ?_
 apply k6; clear k6; refine kp [1, 2, 6, 7, 20, 21, 22] ?_
 refine ai fun _ k7 => ?_
 refine cd (fun hc8 => ?_) (fun hc8 => ?_)
 ·(try simp only [zB, reduceCtorEq] at hc8)
  refine ax ?_
  apply k7; clear k7; refine kp [1, 2, 6, 7, 20, 21, 22] ?_
  refine ai fun _ k9 => ?_
  refine ay ?_
  refine ai fun _ k10 => ?_
  refine ak hP hN rfl ?_
  iterate 2 (refine aj rfl fun _ k0 => ?_; simp only [zO, zT, acs, reduceCtorEq, aa, V, ad, ag, af, ae, Mly.av]; (repeat refine an ?_); (try refine .inl ?_); apply k0; clear k0; simp only [zP, V])
  refine am ?_
  apply k10; clear k10; refine kp [1, 2, 6, 7, 8, 20, 21, 22] ?_
  refine ai fun _ k11 => ?_
  refine ak hP hN rfl ?_
  iterate 2 (refine aj rfl fun _ k0 => ?_; simp only [zO, zT, acs, reduceCtorEq, aa, V, ad, ag, af, ae, Mly.av]; (repeat refine an ?_); (try refine .inl ?_); apply k0; clear k0; simp only [zP, V])
  refine aj rfl fun _ k0 => ?_
  refine aN (h := aA (yf m (m.cls j) hm (jJ m j) (pw hm j))) rfl rfl (by first | exact rfl | (simp only [ev, zP, aa, V]; exact rfl)) (by simp only [zV, acs, reduceCtorEq, aa, V, ad, ag, af, ae, Mly.av]) ?_
  apply k0; clear k0; simp only [zP, V]
  iterate 5 (refine aj rfl fun _ k0 => ?_; simp only [zO, zT, acs, reduceCtorEq, aa, V, ad, ag, af, ae, Mly.av]; (repeat refine an ?_); (try refine .inl ?_); apply k0; clear k0; simp only [zP, V])
  refine am ?_
  apply k11; clear k11; refine kp [1, 2, 6, 7, 8, 9, 10, 20, 21, 22] ?_
  refine ai fun _ k12 => ?_
  refine ai fun _ k13 => ?_
  refine ak hP hN rfl ?_
  iterate 3 (refine aj rfl fun _ k0 => ?_; simp only [zO, zT, acs, reduceCtorEq, aa, V, ad, ag, af, ae, Mly.av]; (repeat refine an ?_); (try refine .inl ?_); apply k0; clear k0; simp only [zP, V])
  refine am ?_
  apply k13; clear k13; refine kp [1, 2, 6, 7, 8, 9, 10, 20, 21, 22, 32] ?_
  refine cd (fun hc14 => ?_) (fun hc14 => ?_)
  ·(try simp only [zB, reduceCtorEq] at hc14)
   refine ai fun _ k15 => ?_
   refine ak hP hN rfl ?_
   iterate 4 (refine aj rfl fun _ k0 => ?_; simp only [zO, zT, acs, reduceCtorEq, aa, V, ad, ag, af, ae, Mly.av]; (repeat refine an ?_); (try refine .inl ?_); apply k0; clear k0; simp only [zP, V])
   refine am ?_
   apply k15; clear k15; refine kp [1, 2, 4, 5, 6, 7, 8, 9, 10, 20, 21, 22, 32] ?_
   refine aB ?_
   refine ⟨nr, _, rfl, ?_⟩; simp only [zF, zP, aa, V, Mly.av]
   refine VLE.of_eq ?_
   first
   | (have hce : m.cnt (j + 1) = m.cnt j := by assumption
      have e := qw (m := m) (N := jo m k) (j := j) (by omega) hce hq
      unfold Mly.refC Mly.refK; rw [e])
   | (have hjn : j = jo m k := by omega
      subst hjn
      have e := oS hq
      unfold Mly.refC Mly.refK; rw [e, hNN])
  (try simp only [zB, reduceCtorEq] at hc14)
  refine ax ?_
  apply k12; clear k12; refine kp [1, 2, 6, 7, 8, 9, 10, 20, 21, 22, 32] ?_
  refine ak hP hN rfl ?_
  iterate 4 (refine aj rfl fun _ k0 => ?_; simp only [zO, zT, acs, reduceCtorEq, aa, V, ad, ag, af, ae, Mly.av]; (repeat refine an ?_); (try refine .inl ?_); apply k0; clear k0; simp only [zP, V])
  refine am ?_
  apply k9; clear k9; refine kp [1, 2, 6, 7, 8, 9, 10, 20, 21, 22, 32] ?_
  refine ak hP hN rfl ?_
  iterate 2 (refine aj rfl fun _ k0 => ?_; simp only [zO, zT, acs, reduceCtorEq, aa, V, ad, ag, af, ae, Mly.av]; (repeat refine an ?_); (try refine .inl ?_); apply k0; clear k0; simp only [zP, V])
  refine am ?_
  have hne : m.cnt (j + 1) ≠ m.cnt j := by first | assumption | (intro hh; simp_all [Mly.cnt])
  refine ⟨_, _, ?_, aw [1, 2, 6, 7, 20, 21], j + 1, by omega, fun q hq2 => ?_, rfl, rfl⟩
  · omega
  · by_cases e : q = j
    · rw [e]; exact hne
    · exact hq q (by omega)
 (try simp only [zB, reduceCtorEq] at hc8)
 refine aX ?_
 apply k3; clear k3; refine kp [1, 2, 6, 7, 20, 21, 22] ?_
 refine ai fun _ k16 => ?_
 refine bp hP hN Try.mixed rfl ?_
 iterate 9 (refine aj rfl fun _ k0 => ?_; simp only [zO, zT, acs, reduceCtorEq, aa, V, ad, ag, af, ae, Mly.av]; (repeat refine an ?_); (try refine .inl ?_); apply k0; clear k0; simp only [zP, V])
 refine am ?_
 refine ⟨by kernel_rfl, ?_⟩
 apply k16; clear k16; refine kp [1, 2, 4, 5, 6, 7, 20, 21, 22] ?_
 refine aB ?_
 refine ⟨nr, _, rfl, ?_⟩; simp only [zF, zP, aa, V, Mly.av]
 refine VLE.of_eq ?_
 first
 | (have hce : m.cnt (j + 1) = m.cnt j := by assumption
    have e := qw (m := m) (N := jo m k) (j := j) (by omega) hce hq
    unfold Mly.refC Mly.refK; rw [e])
 | (have hjn : j = jo m k := by omega
    subst hjn
    have e := oS hq
    unfold Mly.refC Mly.refK; rw [e, hNN])
theorem jy (m : Mly) : bZ Try.prog 48 [m.av] (.one (.int .i64 (aO m))) := by
 refine aU Try.func48 rfl (by kernel_rfl) (Nat.le_of_ble_eq_true rfl) rfl fun C hP hN hB => ?_
 replace hN : C.N = 104 := hN
 simp only [bg, V]
 refine ai fun _ k1 => ?_
 refine ak hP hN rfl ?_
 iterate 2 (refine aj rfl fun _ k0 => ?_; simp only [zO, zT, acs, reduceCtorEq, aa, V, ad, ag, af, ae, Mly.av]; (repeat refine an ?_); (try refine .inl ?_); apply k0; clear k0; simp only [zP, V])
 refine am ?_
 apply k1; clear k1; refine kp [0, 1, 2] ?_
 refine ai fun _ k2 => ?_
 refine ak hP hN rfl ?_
 iterate 4 (refine aj rfl fun _ k0 => ?_; simp only [zO, zT, acs, reduceCtorEq, aa, V, ad, ag, af, ae, Mly.av]; (repeat refine an ?_); (try refine .inl ?_); apply k0; clear k0; simp only [zP, V])
 refine am ?_
 apply k2; clear k2; refine kp [0, 1, 2, 3] ?_
 refine ai fun _ k3 => ?_
 refine ay ?_
 refine ai fun _ k4 => ?_
 refine ak hP hN rfl ?_
 iterate 4 (refine aj rfl fun _ k0 => ?_; simp only [zO, zT, acs, reduceCtorEq, aa, V, ad, ag, af, ae, Mly.av]; (repeat refine an ?_); (try refine .inl ?_); apply k0; clear k0; simp only [zP, V])
 refine' aP (want := false) 3 rfl (m := 15) (by simp only [zP, aa, V]; exact rfl) (by kernel_rfl) rfl rfl rfl rfl rfl (fun hg5 => ?a5) ?b5 ?c5
 case a5 =>
  have hq5 := hg5; (try simp only [zB, reduceCtorEq] at hg5); simp only [zE]
  iterate 3 (refine bf rfl fun _ k0 => ?_; simp only [zO, zT, acs, reduceCtorEq, aa, V, ad, ag, af, ae, Mly.av]; (repeat refine an ?_); (try refine .inl ?_); apply k0; clear k0; simp only [zP, V])
  (refine aj rfl fun _ k0 => ?_; simp only [zO, zT, acs, reduceCtorEq, aa, V, ad, ag, af, ae, Mly.av]; (repeat refine an ?_); (try refine .inl ?_); apply k0; clear k0; simp only [zP, V])
  refine am ?_
  refine ⟨by simp only [zP, aa, V]; exact rfl, rfl, ?_, rfl⟩; (repeat refine aQ rfl ?_); exact bn (by exact rfl) hq5
 case b5 => exact cq
 simp only [b7, aT]
 (refine aj rfl fun _ k0 => ?_; simp only [zO, zT, acs, reduceCtorEq, aa, V, ad, ag, af, ae, Mly.av]; (repeat refine an ?_); (try refine .inl ?_); apply k0; clear k0; simp only [zP, V])
 refine am ?_
 apply k4; clear k4; refine kp [0, 1, 2, 3, 11] ?_
 refine cd (fun hc6 => ?_) (fun hc6 => ?_)
 ·(try simp only [zB, reduceCtorEq] at hc6)
  refine ai fun _ k7 => ?_
  refine ak hP hN rfl ?_
  (refine aj rfl fun _ k0 => ?_; simp only [zO, zT, acs, reduceCtorEq, aa, V, ad, ag, af, ae, Mly.av]; (repeat refine an ?_); (try refine .inl ?_); apply k0; clear k0; simp only [zP, V])
  refine am ?_
  apply k7; clear k7; refine kp [0, 1, 2, 3, 11] ?_
  refine aB ?_
  refine ⟨nr, _, rfl, ?_⟩; simp only [zF, zP, aa, V, Mly.av]
  refine VLE.of_eq ?_
  refine congrArg (fun n => AV.one (AC.int IntKind.i64 n)) ?_
  symm
  unfold aO
  first
  | (rw [if_pos (by omega)]; done)
  | (rw [if_neg (by omega), if_pos (by omega)]; done)
  | (rw [if_neg (by omega), if_neg (by omega), if_pos (by omega)]; done)
  | (rw [if_neg (by omega), if_neg (by omega), if_neg (by omega), if_pos (by omega)]; done)
  | (rw [if_neg (by omega), if_neg (by omega), if_neg (by omega), if_neg (by omega), if_pos (by omega)]; done)
  | (rw [if_neg (by omega), if_neg (by omega), if_neg (by omega), if_neg (by omega), if_neg (by omega)]
     first
     | exact (cg hrows (by omega) (by rw [cG hc32.1 hc32.2 (j := j) (by omega) (by unfold bP; omega)]; decide)).trans (cG hc32.1 hc32.2 (by omega) (by unfold bP; omega))
     | exact (cg hrows (by omega) (by rw [cH hc32]; decide)).trans (cH hc32)
     | exact cj fun i hi => hrows i (by omega))
 (try simp only [zB, reduceCtorEq] at hc6)
 refine ai fun _ k8 => ?_
 refine ak hP hN rfl ?_
 iterate 3 (refine aj rfl fun _ k0 => ?_; simp only [zO, zT, acs, reduceCtorEq, aa, V, ad, ag, af, ae, Mly.av]; (repeat refine an ?_); (try refine .inl ?_); apply k0; clear k0; simp only [zP, V])
 refine am ?_
 apply k8; clear k8; refine kp [0, 1, 2, 3, 11, 20] ?_
 refine cd (fun hc9 => ?_) (fun hc9 => ?_)
 ·(try simp only [zB, reduceCtorEq] at hc9)
  refine ai fun _ k10 => ?_
  refine ak hP hN rfl ?_
  (refine aj rfl fun _ k0 => ?_; simp only [zO, zT, acs, reduceCtorEq, aa, V, ad, ag, af, ae, Mly.av]; (repeat refine an ?_); (try refine .inl ?_); apply k0; clear k0; simp only [zP, V])
  refine am ?_
  apply k10; clear k10; refine kp [0, 1, 2, 3, 11, 20] ?_
  refine aB ?_
  refine ⟨nr, _, rfl, ?_⟩; simp only [zF, zP, aa, V, Mly.av]
  refine VLE.of_eq ?_
  refine congrArg (fun n => AV.one (AC.int IntKind.i64 n)) ?_
  symm
  unfold aO
  first
  | (rw [if_pos (by omega)]; done)
  | (rw [if_neg (by omega), if_pos (by omega)]; done)
  | (rw [if_neg (by omega), if_neg (by omega), if_pos (by omega)]; done)
  | (rw [if_neg (by omega), if_neg (by omega), if_neg (by omega), if_pos (by omega)]; done)
  | (rw [if_neg (by omega), if_neg (by omega), if_neg (by omega), if_neg (by omega), if_pos (by omega)]; done)
  | (rw [if_neg (by omega), if_neg (by omega), if_neg (by omega), if_neg (by omega), if_neg (by omega)]
     first
     | exact (cg hrows (by omega) (by rw [cG hc32.1 hc32.2 (j := j) (by omega) (by unfold bP; omega)]; decide)).trans (cG hc32.1 hc32.2 (by omega) (by unfold bP; omega))
     | exact (cg hrows (by omega) (by rw [cH hc32]; decide)).trans (cH hc32)
     | exact cj fun i hi => hrows i (by omega))
 (try simp only [zB, reduceCtorEq] at hc9)
 refine ai fun _ k11 => ?_
 refine ak hP hN rfl ?_
 iterate 3 (refine aj rfl fun _ k0 => ?_; simp only [zO, zT, acs, reduceCtorEq, aa, V, ad, ag, af, ae, Mly.av]; (repeat refine an ?_); (try refine .inl ?_); apply k0; clear k0; simp only [zP, V])
 refine am ?_
 apply k11; clear k11; refine kp [0, 1, 2, 3, 11, 20, 23] ?_
 refine cd (fun hc12 => ?_) (fun hc12 => ?_)
 ·(try simp only [zB, reduceCtorEq] at hc12)
  refine ai fun _ k13 => ?_
  refine ak hP hN rfl ?_
  (refine aj rfl fun _ k0 => ?_; simp only [zO, zT, acs, reduceCtorEq, aa, V, ad, ag, af, ae, Mly.av]; (repeat refine an ?_); (try refine .inl ?_); apply k0; clear k0; simp only [zP, V])
  refine am ?_
  apply k13; clear k13; refine kp [0, 1, 2, 3, 11, 20, 23] ?_
  refine aB ?_
  refine ⟨nr, _, rfl, ?_⟩; simp only [zF, zP, aa, V, Mly.av]
  refine VLE.of_eq ?_
  refine congrArg (fun n => AV.one (AC.int IntKind.i64 n)) ?_
  symm
  unfold aO
  first
  | (rw [if_pos (by omega)]; done)
  | (rw [if_neg (by omega), if_pos (by omega)]; done)
  | (rw [if_neg (by omega), if_neg (by omega), if_pos (by omega)]; done)
  | (rw [if_neg (by omega), if_neg (by omega), if_neg (by omega), if_pos (by omega)]; done)
  | (rw [if_neg (by omega), if_neg (by omega), if_neg (by omega), if_neg (by omega), if_pos (by omega)]; done)
  | (rw [if_neg (by omega), if_neg (by omega), if_neg (by omega), if_neg (by omega), if_neg (by omega)]
     first
     | exact (cg hrows (by omega) (by rw [cG hc32.1 hc32.2 (j := j) (by omega) (by unfold bP; omega)]; decide)).trans (cG hc32.1 hc32.2 (by omega) (by unfold bP; omega))
     | exact (cg hrows (by omega) (by rw [cH hc32]; decide)).trans (cH hc32)
     | exact cj fun i hi => hrows i (by omega))
 (try simp only [zB, reduceCtorEq] at hc12)
 refine ai fun _ k14 => ?_
 refine ak hP hN rfl ?_
 iterate 4 (refine aj rfl fun _ k0 => ?_; simp only [zO, zT, acs, reduceCtorEq, aa, V, ad, ag, af, ae, Mly.av]; (repeat refine an ?_); (try refine .inl ?_); apply k0; clear k0; simp only [zP, V])
 refine' aP (want := false) 4 rfl (m := 30) (by simp only [zP, aa, V]; exact rfl) (by kernel_rfl) rfl rfl rfl rfl rfl (fun hg15 => ?a15) ?b15 ?c15
 case a15 =>
  have hq15 := hg15; (try simp only [zB, reduceCtorEq] at hg15); simp only [zE]
  iterate 4 (refine bf rfl fun _ k0 => ?_; simp only [zO, zT, acs, reduceCtorEq, aa, V, ad, ag, af, ae, Mly.av]; (repeat refine an ?_); (try refine .inl ?_); apply k0; clear k0; simp only [zP, V])
  (refine aj rfl fun _ k0 => ?_; simp only [zO, zT, acs, reduceCtorEq, aa, V, ad, ag, af, ae, Mly.av]; (repeat refine an ?_); (try refine .inl ?_); apply k0; clear k0; simp only [zP, V])
  refine am ?_
  refine ⟨by simp only [zP, aa, V]; exact rfl, rfl, ?_, rfl⟩; (repeat refine aQ rfl ?_); exact bn (by exact rfl) hq15
 case b15 => exact cq
 simp only [b7, aT]
 (refine aj rfl fun _ k0 => ?_; simp only [zO, zT, acs, reduceCtorEq, aa, V, ad, ag, af, ae, Mly.av]; (repeat refine an ?_); (try refine .inl ?_); apply k0; clear k0; simp only [zP, V])
 refine am ?_
 apply k14; clear k14; refine kp [0, 1, 2, 3, 11, 20, 23, 26] ?_
 refine cd (fun hc16 => ?_) (fun hc16 => ?_)
 ·(try simp only [zB, reduceCtorEq] at hc16)
  refine ai fun _ k17 => ?_
  refine ak hP hN rfl ?_
  (refine aj rfl fun _ k0 => ?_; simp only [zO, zT, acs, reduceCtorEq, aa, V, ad, ag, af, ae, Mly.av]; (repeat refine an ?_); (try refine .inl ?_); apply k0; clear k0; simp only [zP, V])
  refine am ?_
  apply k17; clear k17; refine kp [0, 1, 2, 3, 11, 20, 23, 26] ?_
  refine aB ?_
  refine ⟨nr, _, rfl, ?_⟩; simp only [zF, zP, aa, V, Mly.av]
  refine VLE.of_eq ?_
  refine congrArg (fun n => AV.one (AC.int IntKind.i64 n)) ?_
  symm
  unfold aO
  first
  | (rw [if_pos (by omega)]; done)
  | (rw [if_neg (by omega), if_pos (by omega)]; done)
  | (rw [if_neg (by omega), if_neg (by omega), if_pos (by omega)]; done)
  | (rw [if_neg (by omega), if_neg (by omega), if_neg (by omega), if_pos (by omega)]; done)
  | (rw [if_neg (by omega), if_neg (by omega), if_neg (by omega), if_neg (by omega), if_pos (by omega)]; done)
  | (rw [if_neg (by omega), if_neg (by omega), if_neg (by omega), if_neg (by omega), if_neg (by omega)]
     first
     | exact (cg hrows (by omega) (by rw [cG hc32.1 hc32.2 (j := j) (by omega) (by unfold bP; omega)]; decide)).trans (cG hc32.1 hc32.2 (by omega) (by unfold bP; omega))
     | exact (cg hrows (by omega) (by rw [cH hc32]; decide)).trans (cH hc32)
     | exact cj fun i hi => hrows i (by omega))
 (try simp only [zB, reduceCtorEq] at hc16)
 refine ai fun _ k18 => ?_
 refine ak hP hN rfl ?_
 iterate 6 (refine aj rfl fun _ k0 => ?_; simp only [zO, zT, acs, reduceCtorEq, aa, V, ad, ag, af, ae, Mly.av]; (repeat refine an ?_); (try refine .inl ?_); apply k0; clear k0; simp only [zP, V])
 refine am ?_
 apply k18; clear k18; refine kp [0, 1, 2, 3, 11, 20, 23, 26, 36] ?_
 refine cd (fun hc19 => ?_) (fun hc19 => ?_)
 ·(try simp only [zB, reduceCtorEq] at hc19)
  refine ai fun _ k20 => ?_
  refine ak hP hN rfl ?_
  (refine aj rfl fun _ k0 => ?_; simp only [zO, zT, acs, reduceCtorEq, aa, V, ad, ag, af, ae, Mly.av]; (repeat refine an ?_); (try refine .inl ?_); apply k0; clear k0; simp only [zP, V])
  refine am ?_
  apply k20; clear k20; refine kp [0, 1, 2, 3, 11, 20, 23, 26, 36] ?_
  refine aB ?_
  refine ⟨nr, _, rfl, ?_⟩; simp only [zF, zP, aa, V, Mly.av]
  refine VLE.of_eq ?_
  refine congrArg (fun n => AV.one (AC.int IntKind.i64 n)) ?_
  symm
  unfold aO
  first
  | (rw [if_pos (by omega)]; done)
  | (rw [if_neg (by omega), if_pos (by omega)]; done)
  | (rw [if_neg (by omega), if_neg (by omega), if_pos (by omega)]; done)
  | (rw [if_neg (by omega), if_neg (by omega), if_neg (by omega), if_pos (by omega)]; done)
  | (rw [if_neg (by omega), if_neg (by omega), if_neg (by omega), if_neg (by omega), if_pos (by omega)]; done)
  | (rw [if_neg (by omega), if_neg (by omega), if_neg (by omega), if_neg (by omega), if_neg (by omega)]
     first
     | exact (cg hrows (by omega) (by rw [cG hc32.1 hc32.2 (j := j) (by omega) (by unfold bP; omega)]; decide)).trans (cG hc32.1 hc32.2 (by omega) (by unfold bP; omega))
     | exact (cg hrows (by omega) (by rw [cH hc32]; decide)).trans (cH hc32)
     | exact cj fun i hi => hrows i (by omega))
 (try simp only [zB, reduceCtorEq] at hc19)
 refine ax ?_
 apply k3; clear k3; refine kp [0, 1, 2, 3, 11, 20, 23, 26, 36] ?_
 refine ai fun _ k21 => ?_
 refine ai fun _ k22 => ?_
 refine ak hP hN rfl ?_
 iterate 2 (refine aj rfl fun _ k0 => ?_; simp only [zO, zT, acs, reduceCtorEq, aa, V, ad, ag, af, ae, Mly.av]; (repeat refine an ?_); (try refine .inl ?_); apply k0; clear k0; simp only [zP, V])
 refine am ?_
 apply k22; clear k22; refine kp [0, 1, 2, 3, 11, 20, 23, 26, 36, 42, 43] ?_
 refine ay ?_
 refine bb (fun n23 s23 => ∃ (k : Nat), (k ≤ m.nx.length) ∧ (∀ i, i < k → iv m i = 0) ∧ n23 = m.nx.length - k ∧ s23 = { env := [(1, .one (.ptr 0 0 0 0)), (3, .one (.int .i64 (m.nx.length : Int))), (42, .one (.int .i64 (m.nx.length : Int))), (43, .one (.int .i64 (k : Int)))], L := [.vars 24 [.int .i64 m.inp, .int .i64 m.st, .list (.list (.int .i64)) m.nx, .list (.list (.int .i64)) m.ot]] }) ?_ ?_
 ·exact ⟨_, _, aw [1, 3, 42, 43], 0, Nat.zero_le _, fun i hi => by omega, rfl, rfl⟩
 rintro n23 s23 ⟨k, hk, hrows, rfl, rfl⟩
 refine ai fun _ k24 => ?_
 refine ak hP hN rfl ?_
 (refine aj rfl fun _ k0 => ?_; simp only [zO, zT, acs, reduceCtorEq, aa, V, ad, ag, af, ae, Mly.av]; (repeat refine an ?_); (try refine .inl ?_); apply k0; clear k0; simp only [zP, V])
 refine am ?_
 apply k24; clear k24; refine kp [1, 3, 42, 43, 44] ?_
 refine ai fun _ k25 => ?_
 refine cd (fun hc26 => ?_) (fun hc26 => ?_)
 ·(try simp only [zB, reduceCtorEq] at hc26)
  refine ax ?_
  apply k25; clear k25; refine kp [1, 3, 42, 43, 44] ?_
  refine ai fun _ k27 => ?_
  refine ay ?_
  refine ai fun _ k28 => ?_
  refine ak hP hN rfl ?_
  iterate 2 (refine aj rfl fun _ k0 => ?_; simp only [zO, zT, acs, reduceCtorEq, aa, V, ad, ag, af, ae, Mly.av]; (repeat refine an ?_); (try refine .inl ?_); apply k0; clear k0; simp only [zP, V])
  refine am ?_
  apply k28; clear k28; refine kp [1, 3, 4, 42, 43, 44] ?_
  refine ai fun _ k29 => ?_
  refine ai fun _ k30 => ?_
  refine bp hP hN Try.mixed rfl ?_
  iterate 10 (refine aj rfl fun _ k0 => ?_; simp only [zO, zT, acs, reduceCtorEq, aa, V, ad, ag, af, ae, Mly.av]; (repeat refine an ?_); (try refine .inl ?_); apply k0; clear k0; simp only [zP, V])
  refine' aP (want := false) 9 rfl (m := 55) (by simp only [zP, aa, V]; exact rfl) (by kernel_rfl) rfl rfl rfl rfl rfl (fun hg31 => ?a31) ?b31 ?c31
  case a31 =>
   have hq31 := hg31; (try simp only [zB, reduceCtorEq] at hg31); simp only [zE]
   iterate 9 (refine bf rfl fun _ k0 => ?_; simp only [zO, zT, acs, reduceCtorEq, aa, V, ad, ag, af, ae, Mly.av]; (repeat refine an ?_); (try refine .inl ?_); apply k0; clear k0; simp only [zP, V])
   (refine aj rfl fun _ k0 => ?_; simp only [zO, zT, acs, reduceCtorEq, aa, V, ad, ag, af, ae, Mly.av]; (repeat refine an ?_); (try refine .inl ?_); apply k0; clear k0; simp only [zP, V])
   refine am ?_
   refine ⟨by simp only [zP, aa, V]; exact rfl, rfl, ?_, rfl⟩; (repeat refine aQ rfl ?_); exact bn (by exact rfl) hq31
  case b31 => exact cq
  simp only [b7, aT]
  refine am ?_
  refine ⟨by kernel_rfl, ?_⟩
  apply k30; clear k30; refine kp [1, 3, 4, 42, 43, 44, 65] ?_
  refine cd (fun hc32 => ?_) (fun hc32 => ?_)
  ·(try simp only [zB, reduceCtorEq] at hc32)
   refine ai fun _ k33 => ?_
   refine ak hP hN rfl ?_
   (refine aj rfl fun _ k0 => ?_; simp only [zO, zT, acs, reduceCtorEq, aa, V, ad, ag, af, ae, Mly.av]; (repeat refine an ?_); (try refine .inl ?_); apply k0; clear k0; simp only [zP, V])
   refine am ?_
   apply k33; clear k33; refine kp [1, 2, 3, 4, 42, 43, 44, 65] ?_
   refine aB ?_
   refine ⟨nr, _, rfl, ?_⟩; simp only [zF, zP, aa, V, Mly.av]
   refine VLE.of_eq ?_
   refine congrArg (fun n => AV.one (AC.int IntKind.i64 n)) ?_
   symm
   unfold aO
   first
   | (rw [if_pos (by omega)]; done)
   | (rw [if_neg (by omega), if_pos (by omega)]; done)
   | (rw [if_neg (by omega), if_neg (by omega), if_pos (by omega)]; done)
   | (rw [if_neg (by omega), if_neg (by omega), if_neg (by omega), if_pos (by omega)]; done)
   | (rw [if_neg (by omega), if_neg (by omega), if_neg (by omega), if_neg (by omega), if_pos (by omega)]; done)
   | (rw [if_neg (by omega), if_neg (by omega), if_neg (by omega), if_neg (by omega), if_neg (by omega)]
      first
      | exact (cg hrows (by omega) (by rw [cG hc32.1 hc32.2 (j := j) (by omega) (by unfold bP; omega)]; decide)).trans (cG hc32.1 hc32.2 (by omega) (by unfold bP; omega))
      | exact (cg hrows (by omega) (by rw [cH hc32]; decide)).trans (cH hc32)
      | exact cj fun i hi => hrows i (by omega))
  (try simp only [zB, reduceCtorEq] at hc32)
  refine ax ?_
  apply k29; clear k29; refine kp [1, 3, 4, 42, 43, 44, 65] ?_
  refine ai fun _ k34 => ?_
  refine ak hP hN rfl ?_
  iterate 3 (refine aj rfl fun _ k0 => ?_; simp only [zO, zT, acs, reduceCtorEq, aa, V, ad, ag, af, ae, Mly.av]; (repeat refine an ?_); (try refine .inl ?_); apply k0; clear k0; simp only [zP, V])
  refine am ?_
  apply k34; clear k34; refine kp [1, 3, 4, 42, 43, 44, 65, 67, 68] ?_
  refine ay ?_
  refine bb (fun n35 s35 => ∃ (j : Nat), ((j : Int) ≤ m.inp) ∧ (∀ a, a < j → ¬ bP m k a) ∧ n35 = m.inp.toNat - j ∧ s35 = { env := [(1, .one (.ptr 0 0 0 0)), (3, .one (.int .i64 (m.nx.length : Int))), (4, .one (.int .i64 (k : Int))), (42, .one (.int .i64 (m.nx.length : Int))), (43, .one (.int .i64 (k : Int))), (67, .one (.int .i64 m.inp)), (68, .one (.int .i64 (j : Int)))], L := [.vars 24 [.int .i64 m.inp, .int .i64 m.st, .list (.list (.int .i64)) m.nx, .list (.list (.int .i64)) m.ot]] }) ?_ ?_
  ·refine ⟨_, _, aw [1, 3, 4, 42, 43, 67, 68], 0, ?_, fun i hi => by omega, rfl, rfl⟩; omega
  rintro n35 s35 ⟨j, hj, hcells, rfl, rfl⟩
  refine ai fun _ k36 => ?_
  refine ak hP hN rfl ?_
  (refine aj rfl fun _ k0 => ?_; simp only [zO, zT, acs, reduceCtorEq, aa, V, ad, ag, af, ae, Mly.av]; (repeat refine an ?_); (try refine .inl ?_); apply k0; clear k0; simp only [zP, V])
  refine am ?_
  apply k36; clear k36; refine kp [1, 3, 4, 42, 43, 67, 68, 69] ?_
  refine ai fun _ k37 => ?_
  refine cd (fun hc38 => ?_) (fun hc38 => ?_)
  ·(try simp only [zB, reduceCtorEq] at hc38)
   refine ax ?_
   apply k37; clear k37; refine kp [1, 3, 4, 42, 43, 67, 68, 69] ?_
   refine ai fun _ k39 => ?_
   refine ay ?_
   refine ai fun _ k40 => ?_
   refine ak hP hN rfl ?_
   iterate 2 (refine aj rfl fun _ k0 => ?_; simp only [zO, zT, acs, reduceCtorEq, aa, V, ad, ag, af, ae, Mly.av]; (repeat refine an ?_); (try refine .inl ?_); apply k0; clear k0; simp only [zP, V])
   refine am ?_
   apply k40; clear k40; refine kp [1, 3, 4, 5, 42, 43, 67, 68, 69] ?_
   refine ai fun _ k41 => ?_
   refine bp hP hN Try.mixed rfl ?_
   iterate 18 (refine aj rfl fun _ k0 => ?_; simp only [zO, zT, acs, reduceCtorEq, aa, V, ad, ag, af, ae, Mly.av]; (repeat refine an ?_); (try refine .inl ?_); apply k0; clear k0; simp only [zP, V])
   refine am ?_
   refine ⟨by kernel_rfl, ?_⟩
   apply k41; clear k41; refine kp [1, 3, 4, 5, 6, 7, 42, 43, 67, 68, 69] ?_
   refine ai fun _ k42 => ?_
   refine ak hP hN rfl ?_
   iterate 3 (refine aj rfl fun _ k0 => ?_; simp only [zO, zT, acs, reduceCtorEq, aa, V, ad, ag, af, ae, Mly.av]; (repeat refine an ?_); (try refine .inl ?_); apply k0; clear k0; simp only [zP, V])
   refine' aP (want := false) 3 rfl (m := 89) (by simp only [zP, aa, V]; exact rfl) (by kernel_rfl) rfl rfl rfl rfl rfl (fun hg43 => ?a43) ?b43 ?c43
   case a43 =>
    have hq43 := hg43; (try simp only [zB, reduceCtorEq] at hg43); simp only [zE]
    iterate 3 (refine bf rfl fun _ k0 => ?_; simp only [zO, zT, acs, reduceCtorEq, aa, V, ad, ag, af, ae, Mly.av]; (repeat refine an ?_); (try refine .inl ?_); apply k0; clear k0; simp only [zP, V])
    (refine aj rfl fun _ k0 => ?_; simp only [zO, zT, acs, reduceCtorEq, aa, V, ad, ag, af, ae, Mly.av]; (repeat refine an ?_); (try refine .inl ?_); apply k0; clear k0; simp only [zP, V])
    refine am ?_
    refine ⟨by simp only [zP, aa, V]; exact rfl, rfl, ?_, rfl⟩; (repeat refine aQ rfl ?_); exact bn (by exact rfl) hq43
   case b43 => exact cq
   simp only [b7, aT]
   (refine aj rfl fun _ k0 => ?_; simp only [zO, zT, acs, reduceCtorEq, aa, V, ad, ag, af, ae, Mly.av]; (repeat refine an ?_); (try refine .inl ?_); apply k0; clear k0; simp only [zP, V])
   refine' aP (want := false) 2 rfl (m := 94) (by simp only [zP, aa, V]; exact rfl) (by kernel_rfl) rfl rfl rfl rfl rfl (fun hg44 => ?a44) ?b44 ?c44
   case a44 =>
    have hq44 := hg44; (try simp only [zB, reduceCtorEq] at hg44); simp only [zE]
    iterate 2 (refine bf rfl fun _ k0 => ?_; simp only [zO, zT, acs, reduceCtorEq, aa, V, ad, ag, af, ae, Mly.av]; (repeat refine an ?_); (try refine .inl ?_); apply k0; clear k0; simp only [zP, V])
    (refine aj rfl fun _ k0 => ?_; simp only [zO, zT, acs, reduceCtorEq, aa, V, ad, ag, af, ae, Mly.av]; (repeat refine an ?_); (try refine .inl ?_); apply k0; clear k0; simp only [zP, V])
    refine am ?_
    refine ⟨by simp only [zP, aa, V]; exact rfl, rfl, ?_, rfl⟩; (repeat refine aQ rfl ?_); exact bn (by exact rfl) hq44
   case b44 => exact cq
   simp only [b7, aT]
   (refine aj rfl fun _ k0 => ?_; simp only [zO, zT, acs, reduceCtorEq, aa, V, ad, ag, af, ae, Mly.av]; (repeat refine an ?_); (try refine .inl ?_); apply k0; clear k0; simp only [zP, V])
   refine' aP (want := false) 2 rfl (m := 98) (by simp only [zP, aa, V]; exact rfl) (by kernel_rfl) rfl rfl rfl rfl rfl (fun hg45 => ?a45) ?b45 ?c45
   case a45 =>
    have hq45 := hg45; (try simp only [zB, reduceCtorEq] at hg45); simp only [zE]
    iterate 2 (refine bf rfl fun _ k0 => ?_; simp only [zO, zT, acs, reduceCtorEq, aa, V, ad, ag, af, ae, Mly.av]; (repeat refine an ?_); (try refine .inl ?_); apply k0; clear k0; simp only [zP, V])
    (refine aj rfl fun _ k0 => ?_; simp only [zO, zT, acs, reduceCtorEq, aa, V, ad, ag, af, ae, Mly.av]; (repeat refine an ?_); (try refine .inl ?_); apply k0; clear k0; simp only [zP, V])
    refine am ?_
    refine ⟨by simp only [zP, aa, V]; exact rfl, rfl, ?_, rfl⟩; (repeat refine aQ rfl ?_); exact bn (by exact rfl) hq45
   case b45 => exact cq
   simp only [b7, aT]
   refine am ?_
   apply k42; clear k42; refine kp [1, 3, 4, 5, 6, 7, 42, 43, 67, 68, 69, 101] ?_
   refine cd (fun hc46 => ?_) (fun hc46 => ?_)
   ·(try simp only [zB, reduceCtorEq] at hc46)
    refine ai fun _ k47 => ?_
    refine ak hP hN rfl ?_
    (refine aj rfl fun _ k0 => ?_; simp only [zO, zT, acs, reduceCtorEq, aa, V, ad, ag, af, ae, Mly.av]; (repeat refine an ?_); (try refine .inl ?_); apply k0; clear k0; simp only [zP, V])
    refine am ?_
    apply k47; clear k47; refine kp [1, 2, 3, 4, 5, 6, 7, 42, 43, 67, 68, 69, 101] ?_
    refine aB ?_
    refine ⟨nr, _, rfl, ?_⟩; simp only [zF, zP, aa, V, Mly.av]
    refine VLE.of_eq ?_
    refine congrArg (fun n => AV.one (AC.int IntKind.i64 n)) ?_
    symm
    unfold aO
    first
    | (rw [if_pos (by omega)]; done)
    | (rw [if_neg (by omega), if_pos (by omega)]; done)
    | (rw [if_neg (by omega), if_neg (by omega), if_pos (by omega)]; done)
    | (rw [if_neg (by omega), if_neg (by omega), if_neg (by omega), if_pos (by omega)]; done)
    | (rw [if_neg (by omega), if_neg (by omega), if_neg (by omega), if_neg (by omega), if_pos (by omega)]; done)
    | (rw [if_neg (by omega), if_neg (by omega), if_neg (by omega), if_neg (by omega), if_neg (by omega)]
       first
       | exact (cg hrows (by omega) (by rw [cG hc32.1 hc32.2 (j := j) (by omega) (by unfold bP; omega)]; decide)).trans (cG hc32.1 hc32.2 (by omega) (by unfold bP; omega))
       | exact (cg hrows (by omega) (by rw [cH hc32]; decide)).trans (cH hc32)
       | exact cj fun i hi => hrows i (by omega))
   (try simp only [zB, reduceCtorEq] at hc46)
   refine ax ?_
   apply k39; clear k39; refine kp [1, 3, 4, 5, 6, 7, 42, 43, 67, 68, 69, 101] ?_
   refine ak hP hN rfl ?_
   iterate 2 (refine aj rfl fun _ k0 => ?_; simp only [zO, zT, acs, reduceCtorEq, aa, V, ad, ag, af, ae, Mly.av]; (repeat refine an ?_); (try refine .inl ?_); apply k0; clear k0; simp only [zP, V])
   refine am ?_
   refine ⟨_, _, ?_, aw [1, 3, 4, 42, 43, 67, 68], j + 1, ?_, fun a ha => ?_, rfl, rfl⟩
   · omega
   · omega
   · by_cases e : a = j
     · rw [e]; unfold bP; omega
     · exact hcells a (by omega)
  (try simp only [zB, reduceCtorEq] at hc38)
  refine aX ?_
  apply k27; clear k27; refine kp [1, 3, 4, 42, 43, 67, 68, 69] ?_
  refine ak hP hN rfl ?_
  iterate 2 (refine aj rfl fun _ k0 => ?_; simp only [zO, zT, acs, reduceCtorEq, aa, V, ad, ag, af, ae, Mly.av]; (repeat refine an ?_); (try refine .inl ?_); apply k0; clear k0; simp only [zP, V])
  refine am ?_
  refine ⟨_, _, ?_, aw [1, 3, 42, 43], k + 1, by omega, fun i hi => ?_, rfl, rfl⟩
  · omega
  · by_cases e : i = k
    · rw [e]; exact ly hc32.1 hc32.2 fun a ha => hcells a (by omega)
    · exact hrows i (by omega)
 (try simp only [zB, reduceCtorEq] at hc26)
 refine aX ?_
 apply k21; clear k21; refine kp [1, 3, 42, 43, 44] ?_
 refine ai fun _ k48 => ?_
 refine ak hP hN rfl ?_
 (refine aj rfl fun _ k0 => ?_; simp only [zO, zT, acs, reduceCtorEq, aa, V, ad, ag, af, ae, Mly.av]; (repeat refine an ?_); (try refine .inl ?_); apply k0; clear k0; simp only [zP, V])
 refine am ?_
 apply k48; clear k48; refine kp [1, 2, 3, 42, 43, 44] ?_
 refine aB ?_
 refine ⟨nr, _, rfl, ?_⟩; simp only [zF, zP, aa, V, Mly.av]
 refine VLE.of_eq ?_
 refine congrArg (fun n => AV.one (AC.int IntKind.i64 n)) ?_
 symm
 unfold aO
 first
 | (rw [if_pos (by omega)]; done)
 | (rw [if_neg (by omega), if_pos (by omega)]; done)
 | (rw [if_neg (by omega), if_neg (by omega), if_pos (by omega)]; done)
 | (rw [if_neg (by omega), if_neg (by omega), if_neg (by omega), if_pos (by omega)]; done)
 | (rw [if_neg (by omega), if_neg (by omega), if_neg (by omega), if_neg (by omega), if_pos (by omega)]; done)
 | (rw [if_neg (by omega), if_neg (by omega), if_neg (by omega), if_neg (by omega), if_neg (by omega)]
    first
    | exact (cg hrows (by omega) (by rw [cG hc32.1 hc32.2 (j := j) (by omega) (by unfold bP; omega)]; decide)).trans (cG hc32.1 hc32.2 (by omega) (by unfold bP; omega))
    | exact (cg hrows (by omega) (by rw [cH hc32]; decide)).trans (cH hc32)
    | exact cj fun i hi => hrows i (by omega))
theorem Ai (m : Mly) (k : Int) : bZ Try.prog 89 [m.av, .one (.int .i64 k)] (.tup [.one (.list (.int .i64) (if aO m = 0 then m.refC k else [])), .one (.int .i64 (aO m))]) := by
 refine aU Try.func89 rfl (by kernel_rfl) (Nat.le_of_ble_eq_true rfl) rfl fun C hP hN hB => ?_
 replace hN : C.N = 21 := hN
 simp only [bg, V]
 refine ai fun _ k1 => ?_
 refine ak hP hN rfl ?_
 iterate 3 (refine aj rfl fun _ k0 => ?_; simp only [zO, zT, acs, reduceCtorEq, aa, V, ad, ag, af, ae, Mly.av]; (repeat refine an ?_); (try refine .inl ?_); apply k0; clear k0; simp only [zP, V])
 refine am ?_
 apply k1; clear k1; refine kp [0, 1, 2, 4, 5] ?_
 refine ai fun _ k2 => ?_
 refine ai fun _ k3 => ?_
 refine ak hP hN rfl ?_
 (refine aj rfl fun _ k0 => ?_; simp only [zO, zT, acs, reduceCtorEq, aa, V, ad, ag, af, ae, Mly.av]; (repeat refine an ?_); (try refine .inl ?_); apply k0; clear k0; simp only [zP, V])
 refine aj rfl fun _ k0 => ?_
 refine aN (h := aA (jy m)) rfl rfl (by first | exact rfl | (simp only [ev, zP, aa, V]; exact rfl)) (by simp only [zV, acs, reduceCtorEq, aa, V, ad, ag, af, ae, Mly.av]) ?_
 apply k0; clear k0; simp only [zP, V]
 (refine aj rfl fun _ k0 => ?_; simp only [zO, zT, acs, reduceCtorEq, aa, V, ad, ag, af, ae, Mly.av]; (repeat refine an ?_); (try refine .inl ?_); apply k0; clear k0; simp only [zP, V])
 refine am ?_
 apply k3; clear k3; refine kp [0, 1, 2, 4, 5, 6] ?_
 refine ai fun _ k4 => ?_
 refine ak hP hN rfl ?_
 iterate 2 (refine aj rfl fun _ k0 => ?_; simp only [zO, zT, acs, reduceCtorEq, aa, V, ad, ag, af, ae, Mly.av]; (repeat refine an ?_); (try refine .inl ?_); apply k0; clear k0; simp only [zP, V])
 refine am ?_
 apply k4; clear k4; refine kp [0, 1, 2, 4, 5, 6, 12] ?_
 refine cd (fun hc5 => ?_) (fun hc5 => ?_)
 ·(try simp only [zB, reduceCtorEq] at hc5)
  refine ai fun _ k6 => ?_
  refine ak hP hN rfl ?_
  iterate 3 (refine aj rfl fun _ k0 => ?_; simp only [zO, zT, acs, reduceCtorEq, aa, V, ad, ag, af, ae, Mly.av]; (repeat refine an ?_); (try refine .inl ?_); apply k0; clear k0; simp only [zP, V])
  refine am ?_
  apply k6; clear k6; refine kp [0, 1, 2, 4, 5, 6, 12] ?_
  refine aB ?_
  refine ⟨nr, _, rfl, ?_⟩; simp only [zF, zP, aa, V, Mly.av]
  first
  | (rw [if_neg ‹¬aO m = 0›]; exact cv ⟨aZ (bz rfl), aZ (.refl _), trivial⟩)
  | (rw [if_pos ‹aO m = 0›, ‹aO m = 0›]; exact cv ⟨aZ (.refl _), aZ (.refl _), trivial⟩)
 (try simp only [zB, reduceCtorEq] at hc5)
 refine ax ?_
 apply k2; clear k2; refine kp [0, 1, 2, 4, 5, 6, 12] ?_
 refine ai fun _ k7 => ?_
 refine ak hP hN rfl ?_
 iterate 2 (refine aj rfl fun _ k0 => ?_; simp only [zO, zT, acs, reduceCtorEq, aa, V, ad, ag, af, ae, Mly.av]; (repeat refine an ?_); (try refine .inl ?_); apply k0; clear k0; simp only [zP, V])
 refine aj rfl fun _ k0 => ?_
 refine aN (h := aA (vL m k (fa (by assumption)))) rfl rfl (by first | exact rfl | (simp only [ev, zP, aa, V]; exact rfl)) (by simp only [zV, acs, reduceCtorEq, aa, V, ad, ag, af, ae, Mly.av]) ?_
 apply k0; clear k0; simp only [zP, V]
 iterate 5 (refine aj rfl fun _ k0 => ?_; simp only [zO, zT, acs, reduceCtorEq, aa, V, ad, ag, af, ae, Mly.av]; (repeat refine an ?_); (try refine .inl ?_); apply k0; clear k0; simp only [zP, V])
 refine am ?_
 apply k7; clear k7; refine kp [0, 1, 2, 4, 5, 6, 7, 12] ?_
 refine ai fun _ k8 => ?_
 refine ak hP hN rfl ?_
 iterate 3 (refine aj rfl fun _ k0 => ?_; simp only [zO, zT, acs, reduceCtorEq, aa, V, ad, ag, af, ae, Mly.av]; (repeat refine an ?_); (try refine .inl ?_); apply k0; clear k0; simp only [zP, V])
 refine am ?_
 apply k8; clear k8; refine kp [0, 1, 2, 4, 5, 6, 7, 12] ?_
 refine aB ?_
 refine ⟨nr, _, rfl, ?_⟩; simp only [zF, zP, aa, V, Mly.av]
 first
 | (rw [if_neg ‹¬aO m = 0›]; exact cv ⟨aZ (bz rfl), aZ (.refl _), trivial⟩)
 | (rw [if_pos ‹aO m = 0›, ‹aO m = 0›]; exact cv ⟨aZ (.refl _), aZ (.refl _), trivial⟩)
theorem vh (m : Mly) : bZ Try.prog 82 [m.av] (.tup [.one (.list (.int .i64) (if aO m = 0 then m.eqc else [])), .one (.int .i64 (aO m))]) := by
 refine aU Try.func82 rfl (by kernel_rfl) (Nat.le_of_ble_eq_true rfl) rfl fun C hP hN hB => ?_
 replace hN : C.N = 8 := hN
 simp only [bg, V]
 refine ai fun _ k1 => ?_
 refine ak hP hN rfl ?_
 iterate 3 (refine aj rfl fun _ k0 => ?_; simp only [zO, zT, acs, reduceCtorEq, aa, V, ad, ag, af, ae, Mly.av]; (repeat refine an ?_); (try refine .inl ?_); apply k0; clear k0; simp only [zP, V])
 refine am ?_
 apply k1; clear k1; refine kp [0, 1, 2, 3] ?_
 refine ai fun _ k2 => ?_
 refine ak hP hN rfl ?_
 (refine aj rfl fun _ k0 => ?_; simp only [zO, zT, acs, reduceCtorEq, aa, V, ad, ag, af, ae, Mly.av]; (repeat refine an ?_); (try refine .inl ?_); apply k0; clear k0; simp only [zP, V])
 refine aj rfl fun _ k0 => ?_
 refine aN (h := aA (Ai m 128)) rfl rfl (by first | exact rfl | (simp only [ev, zP, aa, V]; exact rfl)) (by simp only [zV, acs, reduceCtorEq, aa, V, ad, ag, af, ae, Mly.av]) ?_
 apply k0; clear k0; simp only [zP, V]
 iterate 4 (refine aj rfl fun _ k0 => ?_; simp only [zO, zT, acs, reduceCtorEq, aa, V, ad, ag, af, ae, Mly.av]; (repeat refine an ?_); (try refine .inl ?_); apply k0; clear k0; simp only [zP, V])
 refine am ?_
 apply k2; clear k2; refine kp [0, 1, 2, 3] ?_
 refine aB ?_
 refine ⟨nr, _, rfl, ?_⟩; simp only [zF, zP, aa, V, Mly.av]
 refine VLE.of_eq ?_
 rfl
theorem tC (m : Mly) (hv : aO m = 0) : bZ Try.prog 82 [m.av] (.tup [.one (.list (.int .i64) m.eqc), .one (.int .i64 0)]) := by
  have h := vh m
  rw [if_pos hv, hv] at h
  exact h

theorem vV  : bZ Try.prog 51 [.one .nils] (.one .nils) := by
 refine aU Try.func51 rfl (by kernel_rfl) (Nat.le_of_ble_eq_true rfl) rfl fun C hP hN hB => ?_
 replace hN : C.N = 8 := hN
 simp only [bg, V]
 refine ai fun _ k1 => ?_
 refine ak hP hN rfl ?_
 (refine aj rfl fun _ k0 => ?_; simp only [zO, zT, acs, reduceCtorEq, aa, V, ad, ag, af, ae]; (repeat refine an ?_); (try refine .inl ?_); apply k0; clear k0; simp only [zP, V])
 refine am ?_
 apply k1; clear k1; refine kp [0, 2] ?_
 refine ai fun _ k2 => ?_
 refine ai fun _ k3 => ?_
 refine ak hP hN rfl ?_
 iterate 2 (refine aj rfl fun _ k0 => ?_; simp only [zO, zT, acs, reduceCtorEq, aa, V, ad, ag, af, ae]; (repeat refine an ?_); (try refine .inl ?_); apply k0; clear k0; simp only [zP, V])
 refine am ?_
 apply k3; clear k3; refine kp [0, 2, 4] ?_
 refine cd (fun hc4 => ?_) (fun hc4 => ?_)
 ·(try simp only [zB, reduceCtorEq] at hc4)
  refine ai fun _ k5 => ?_
  refine ak hP hN rfl ?_
  (refine aj rfl fun _ k0 => ?_; simp only [zO, zT, acs, reduceCtorEq, aa, V, ad, ag, af, ae]; (repeat refine an ?_); (try refine .inl ?_); apply k0; clear k0; simp only [zP, V])
  refine am ?_
  apply k5; clear k5; refine kp [0, 2, 4] ?_
  refine aB ?_
  refine ⟨nr, _, rfl, ?_⟩; simp only [zF, zP, aa, V]
  refine VLE.of_eq ?_
  rfl
 · exfalso; (try simp only [zB, reduceCtorEq] at hc4); all_goals (first | (cases hc4; done) | omega | (simp at hc4; done) | (simp_all; done))
theorem zY  : bZ Try.prog 51 [.one .emp] (.one (.list (.int .i64) [])) := by
 refine aU Try.func51 rfl (by kernel_rfl) (Nat.le_of_ble_eq_true rfl) rfl fun C hP hN hB => ?_
 replace hN : C.N = 8 := hN
 simp only [bg, V]
 refine ai fun _ k1 => ?_
 refine ak hP hN rfl ?_
 (refine aj rfl fun _ k0 => ?_; simp only [zO, zT, acs, reduceCtorEq, aa, V, ad, ag, af, ae]; (repeat refine an ?_); (try refine .inl ?_); apply k0; clear k0; simp only [zP, V])
 refine am ?_
 apply k1; clear k1; refine kp [0, 2] ?_
 refine ai fun _ k2 => ?_
 refine ai fun _ k3 => ?_
 refine ak hP hN rfl ?_
 iterate 2 (refine aj rfl fun _ k0 => ?_; simp only [zO, zT, acs, reduceCtorEq, aa, V, ad, ag, af, ae]; (repeat refine an ?_); (try refine .inl ?_); apply k0; clear k0; simp only [zP, V])
 refine am ?_
 apply k3; clear k3; refine kp [0, 2, 4] ?_
 refine cd (fun hc4 => ?_) (fun hc4 => ?_)
 · exfalso; (try simp only [zB, reduceCtorEq] at hc4); all_goals (first | (cases hc4; done) | omega | (simp at hc4; done) | (simp_all; done))
 (try simp only [zB, reduceCtorEq] at hc4)
 refine ax ?_
 apply k2; clear k2; refine kp [0, 2, 4] ?_
 refine ai fun _ k5 => ?_
 refine ak hP hN rfl ?_
 (refine aj rfl fun _ k0 => ?_; simp only [zO, zT, acs, reduceCtorEq, aa, V, ad, ag, af, ae]; (repeat refine an ?_); refine Or.inr (Or.inl (k0 _ ?_)); clear k0; simp only [zP, V])
 iterate 3 (refine aj rfl fun _ k0 => ?_; simp only [zO, zT, acs, reduceCtorEq, aa, V, ad, ag, af, ae]; (repeat refine an ?_); (try refine .inl ?_); apply k0; clear k0; simp only [zP, V])
 refine am ?_
 apply k5; clear k5; refine kp [0, 2, 4] ?_
 refine aB ?_
 refine ⟨nr, _, rfl, ?_⟩; simp only [zF, zP, aa, V]
 refine VLE.of_eq ?_
 rfl
theorem Ag (xs : List Int) (h0 : 0 < xs.length) (h1 : xs.length ≤ 10000000000000) : bZ Try.prog 51 [.one (.list (.int .i64) xs)] (.one (.list (.int .i64) xs)) := by
 refine aU Try.func51 rfl (by kernel_rfl) (Nat.le_of_ble_eq_true rfl) rfl fun C hP hN hB => ?_
 replace hN : C.N = 8 := hN
 simp only [bg, V]
 refine ai fun _ k1 => ?_
 refine ak hP hN rfl ?_
 (refine aj rfl fun _ k0 => ?_; simp only [zO, zT, acs, reduceCtorEq, aa, V, ad, ag, af, ae]; (repeat refine an ?_); (try refine .inl ?_); apply k0; clear k0; simp only [zP, V])
 refine am ?_
 apply k1; clear k1; refine kp [0, 2] ?_
 refine ai fun _ k2 => ?_
 refine ai fun _ k3 => ?_
 refine ak hP hN rfl ?_
 iterate 2 (refine aj rfl fun _ k0 => ?_; simp only [zO, zT, acs, reduceCtorEq, aa, V, ad, ag, af, ae]; (repeat refine an ?_); (try refine .inl ?_); apply k0; clear k0; simp only [zP, V])
 refine am ?_
 apply k3; clear k3; refine kp [0, 2, 4] ?_
 refine cd (fun hc4 => ?_) (fun hc4 => ?_)
 · exfalso; (try simp only [zB, reduceCtorEq] at hc4); all_goals (first | (cases hc4; done) | omega | (simp at hc4; done) | (simp_all; done))
 (try simp only [zB, reduceCtorEq] at hc4)
 refine ax ?_
 apply k2; clear k2; refine kp [0, 2, 4] ?_
 refine ai fun _ k5 => ?_
 refine ak hP hN rfl ?_
 (refine aj rfl fun _ k0 => ?_; simp only [zO, zT, acs, reduceCtorEq, aa, V, ad, ag, af, ae]; (repeat refine an ?_); refine Or.inr (Or.inl (k0 _ ?_)); clear k0; simp only [zP, V])
 iterate 3 (refine aj rfl fun _ k0 => ?_; simp only [zO, zT, acs, reduceCtorEq, aa, V, ad, ag, af, ae]; (repeat refine an ?_); (try refine .inl ?_); apply k0; clear k0; simp only [zP, V])
 refine am ?_
 apply k5; clear k5; refine kp [0, 2, 4] ?_
 refine aB ?_
 refine ⟨nr, _, rfl, ?_⟩; simp only [zF, zP, aa, V]
 refine VLE.of_eq ?_
 rfl
theorem um (xs : List Int) (h : xs.length ≤ 10000000000000) : bZ Try.prog 51 [.one (.list (.int .i64) xs)] (.one (.list (.int .i64) xs)) :=
  tc (t := .int .i64) (fun e => v6 vV (m3 (bz e))) (fun e => by subst e; exact zY) (fun h0 => Ag xs h0 h) vV.1

theorem uc (m : Mly) : bZ Try.prog 69 [m.av] (.one (.list (.int .i64) m.reach)) := by
 refine aU Try.func69 rfl (by kernel_rfl) (Nat.le_of_ble_eq_true rfl) rfl fun C hP hN hB => ?_
 replace hN : C.N = 55 := hN
 simp only [bg, V]
 refine ai fun _ k1 => ?_
 refine ak hP hN rfl ?_
 iterate 2 (refine aj rfl fun _ k0 => ?_; simp only [zO, zT, acs, reduceCtorEq, aa, V, ad, ag, af, ae, Mly.av]; (repeat refine an ?_); (try refine .inl ?_); apply k0; clear k0; simp only [zP, V])
 refine am ?_
 apply k1; clear k1; refine kp [0, 1, 2] ?_
 refine ai fun _ k2 => ?_
 refine ai fun _ k3 => ?_
 refine ak hP hN rfl ?_
 (refine aj rfl fun _ k0 => ?_; simp only [zO, zT, acs, reduceCtorEq, aa, V, ad, ag, af, ae, Mly.av]; (repeat refine an ?_); (try refine .inl ?_); apply k0; clear k0; simp only [zP, V])
 refine aj rfl fun _ k0 => ?_
 refine aN (h := aA (jy m)) rfl rfl (by first | exact rfl | (simp only [ev, zP, aa, V]; exact rfl)) (by simp only [zV, acs, reduceCtorEq, aa, V, ad, ag, af, ae, Mly.av]) ?_
 apply k0; clear k0; simp only [zP, V]
 (refine aj rfl fun _ k0 => ?_; simp only [zO, zT, acs, reduceCtorEq, aa, V, ad, ag, af, ae, Mly.av]; (repeat refine an ?_); (try refine .inl ?_); apply k0; clear k0; simp only [zP, V])
 refine am ?_
 apply k3; clear k3; refine kp [0, 1, 2, 10] ?_
 refine cd (fun hc4 => ?_) (fun hc4 => ?_)
 ·(try simp only [zB, reduceCtorEq] at hc4)
  refine ai fun _ k5 => ?_
  refine ak hP hN rfl ?_
  (refine aj rfl fun _ k0 => ?_; simp only [zO, zT, acs, reduceCtorEq, aa, V, ad, ag, af, ae, Mly.av]; (repeat refine an ?_); (try refine .inl ?_); apply k0; clear k0; simp only [zP, V])
  refine am ?_
  apply k5; clear k5; refine kp [0, 1, 2, 10] ?_
  refine aB ?_
  refine ⟨nr, _, rfl, ?_⟩; simp only [zF, zP, aa, V, Mly.av]
  first
  | (rw [oK ‹¬aO m = 0›]; exact m3 (bz rfl))
  | (rw [← hrf, fy _ _ _ _ (by omega)]; exact VLE.of_eq (by simp))
 (try simp only [zB, reduceCtorEq] at hc4)
 refine ax ?_
 apply k2; clear k2; refine kp [0, 1, 2, 10] ?_
 refine ai fun _ k6 => ?_
 have hv : aO m = 0 := by assumption
 have hm := fa hv; have h1 := hm.s1; have h2 := hm.s2; have h3 := hm.n2; have hrp : (List.replicate m.nx.length false).length = m.nx.length := bh
 refine ak hP hN rfl ?_
 iterate 3 (refine aj rfl fun _ k0 => ?_; simp only [zO, zT, acs, reduceCtorEq, aa, V, ad, ag, af, ae, Mly.av]; (repeat refine an ?_); (try refine .inl ?_); apply k0; clear k0; simp only [zP, V])
 (refine aj rfl fun _ k0 => ?_; simp only [zE, op1, ev, lkp, d5, bQ, bM, d4, Nat.mul_one, bS, cI, acs, Ty.dflt, zG, bY, cr, fo, ew, cK, d7, eE, Nat.div_one, cR, df, Ty.size, br, dite_true, cQ, reduceCtorEq, aa, V, ad, ag, af, ae, Try.el107, Try.el22, Try.st24, Try.td107, Try.td2, Try.td22, Try.td24, Try.td3, Mly.av]; (repeat refine an ?_); (try refine .inl ?_); apply k0; clear k0; simp only [zP, V])
 (refine aj rfl fun _ k0 => ?_; simp only [zO, zT, acs, reduceCtorEq, aa, V, ad, ag, af, ae, Mly.av]; (repeat refine an ?_); (try refine .inl ?_); apply k0; clear k0; simp only [zP, V])
 refine am ?_
 apply k6; clear k6; refine kp [0, 1, 2, 3, 10] ?_
 refine ai fun _ k7 => ?_
 refine ak hP hN rfl ?_
 iterate 5 (refine aj rfl fun _ k0 => ?_; simp only [zO, zT, acs, reduceCtorEq, aa, V, ad, ag, af, ae, Mly.av]; (repeat refine an ?_); (try refine .inl ?_); apply k0; clear k0; simp only [zP, V])
 refine am ?_
 apply k7; clear k7; refine kp [0, 1, 2, 3, 10] ?_
 refine ai fun _ k8 => ?_
 refine ak hP hN rfl ?_
 iterate 2 (refine aj rfl fun _ k0 => ?_; simp only [zO, zT, acs, reduceCtorEq, aa, V, ad, ag, af, ae, Mly.av]; (repeat refine an ?_); (try refine .inl ?_); apply k0; clear k0; simp only [zP, V])
 (refine aj rfl fun _ k0 => ?_; simp only [zO, zT, acs, reduceCtorEq, aa, V, ad, ag, af, ae, Mly.av]; (repeat refine an ?_); refine Or.inr (Or.inl (k0 _ ?_)); clear k0; simp only [zP, V])
 (refine aj rfl fun _ k0 => ?_; simp only [zO, zT, acs, reduceCtorEq, aa, V, ad, ag, af, ae, Mly.av]; (repeat refine an ?_); (try refine .inl ?_); apply k0; clear k0; simp only [zP, V])
 refine am ?_
 apply k8; clear k8; refine kp [0, 1, 2, 3, 4, 10] ?_
 refine ai fun _ k9 => ?_
 refine ai fun _ k10 => ?_
 refine ak hP hN rfl ?_
 (refine aj rfl fun _ k0 => ?_; simp only [zO, zT, acs, reduceCtorEq, aa, V, ad, ag, af, ae, Mly.av]; (repeat refine an ?_); (try refine .inl ?_); apply k0; clear k0; simp only [zP, V])
 refine am ?_
 apply k10; clear k10; refine kp [0, 1, 2, 3, 4, 5, 10] ?_
 refine ay ?_
 refine bb (fun n11 s11 => ∃ (i : Nat) (l : List Int) (v : Nat), (RSet m.nx.length l) ∧ (m.rf (m.nx.length + 1 - i) i l = m.reach) ∧ (i ≤ l.length) ∧ n11 = m.nx.length + 1 - i ∧ s11 = { env := [(1, .one (.ptr 0 0 0 0)), (3, .one (.row 1 0)), (4, .one (.row 2 v)), (5, .one (.int .i64 (i : Int)))], L := [.vars 24 [.int .i64 m.inp, .int .i64 m.st, .list (.list (.int .i64)) m.nx, .list (.list (.int .i64)) m.ot], .row .bool 4 0 (fw m.nx.length l), .row (.int .i64) 3 v l] }) ?_ ?_
 ·refine ⟨_, _, aw [1, 3, 4, 5], 0, [m.st], 0, gL hm, (dK hv).symm, Nat.zero_le _, rfl, ?_⟩
  have hs := mf (n := m.nx.length) (l := []) hm.s1 hm.s2
  rw [wY]
  simp only [ba] at hs
  rw [hs]; rfl
 rintro n11 s11 ⟨i, l, v, hR, hrf, hi, rfl, rfl⟩
 refine ai fun _ k12 => ?_
 refine ai fun _ k13 => ?_
 refine ak hP hN rfl ?_
 iterate 4 (refine aj rfl fun _ k0 => ?_; simp only [zO, zT, acs, reduceCtorEq, aa, V, ad, ag, af, ae, Mly.av]; (repeat refine an ?_); (try refine .inl ?_); apply k0; clear k0; simp only [zP, V])
 refine am ?_
 apply k13; clear k13; refine kp [1, 3, 4, 5, 25] ?_
 refine cd (fun hc14 => ?_) (fun hc14 => ?_)
 ·(try simp only [zB, reduceCtorEq] at hc14)
  refine ax ?_
  apply k12; clear k12; refine kp [1, 3, 4, 5, 25] ?_
  refine ai fun _ k15 => ?_
  refine ay ?_
  refine ai fun _ k16 => ?_
  have hx := hR.at_ (i := i) (by omega); have hl := hR.len; have hrl := hm.rl (l.getD i 0).toNat (by omega); have hi2 := hm.i2; have hrow : ((m.row (l.getD i 0)).length : Int) = m.inp := hrl
  refine bp hP hN Try.mixed rfl ?_
  iterate 10 (refine aj rfl fun _ k0 => ?_; simp only [zO, zT, acs, reduceCtorEq, aa, V, ad, ag, af, ae, Mly.av]; (repeat refine an ?_); (try refine .inl ?_); apply k0; clear k0; simp only [zP, V])
  refine am ?_
  refine ⟨by kernel_rfl, ?_⟩
  apply k16; clear k16; refine kp [1, 3, 4, 5, 25, 35, 36, 37] ?_
  refine ay ?_
  refine bb (fun n17 s17 => ∃ (j : Nat) (v2 : Nat), (j ≤ (m.row (l.getD i 0)).length) ∧ (RSet m.nx.length (((m.row (l.getD i 0)).take j).foldl bU l)) ∧ n17 = (m.row (l.getD i 0)).length - j ∧ s17 = { env := [(1, .one (.ptr 0 0 0 0)), (3, .one (.row 1 0)), (4, .one (.row 2 v2)), (5, .one (.int .i64 (i : Int))), (35, .one (.list (.int .i64) (m.row (l.getD i 0)))), (36, .one (.int .i64 ((m.row (l.getD i 0)).length : Int))), (37, .one (.int .i64 (j : Int)))], L := [.vars 24 [.int .i64 m.inp, .int .i64 m.st, .list (.list (.int .i64)) m.nx, .list (.list (.int .i64)) m.ot], .row .bool 4 0 (fw m.nx.length (((m.row (l.getD i 0)).take j).foldl bU l)), .row (.int .i64) 3 v2 (((m.row (l.getD i 0)).take j).foldl bU l)] }) ?_ ?_
  ·exact ⟨_, _, aw [1, 3, 4, 5, 35, 36, 37], 0, v, Nat.zero_le _, hR, rfl, rfl⟩
  rintro n17 s17 ⟨j, v2, hj, hRc, rfl, rfl⟩
  refine ai fun _ k18 => ?_
  refine ak hP hN rfl ?_
  (refine aj rfl fun _ k0 => ?_; simp only [zO, zT, acs, reduceCtorEq, aa, V, ad, ag, af, ae, Mly.av]; (repeat refine an ?_); (try refine .inl ?_); apply k0; clear k0; simp only [zP, V])
  refine am ?_
  apply k18; clear k18; refine kp [1, 3, 4, 5, 35, 36, 37, 38] ?_
  refine ai fun _ k19 => ?_
  refine cd (fun hc20 => ?_) (fun hc20 => ?_)
  ·(try simp only [zB, reduceCtorEq] at hc20)
   refine ax ?_
   apply k19; clear k19; refine kp [1, 3, 4, 5, 35, 36, 37, 38] ?_
   refine ai fun _ k21 => ?_
   refine ay ?_
   refine ai fun _ k22 => ?_
   refine ak hP hN rfl ?_
   iterate 3 (refine aj rfl fun _ k0 => ?_; simp only [zO, zT, acs, reduceCtorEq, aa, V, ad, ag, af, ae, Mly.av]; (repeat refine an ?_); (try refine .inl ?_); apply k0; clear k0; simp only [zP, V])
   refine am ?_
   apply k22; clear k22; refine kp [1, 3, 4, 5, 7, 35, 36, 37, 38] ?_
   refine ai fun _ k23 => ?_
   have ht := gy hm hx.1 hx.2 ((m.row (l.getD i 0)).getD j 0) (bm (by omega)); have hse := yY (l := (((m.row (l.getD i 0)).take j).foldl bU l)) ht.1 ht.2; have hsl := x4 m.nx.length (((m.row (l.getD i 0)).take j).foldl bU l); have hcl := hRc.len
   refine ak hP hN rfl ?_
   iterate 5 (refine aj rfl fun _ k0 => ?_; simp only [zO, zT, acs, reduceCtorEq, aa, V, ad, ag, af, ae, Mly.av]; (repeat refine an ?_); (try refine .inl ?_); apply k0; clear k0; simp only [zP, V])
   refine am ?_
   apply k23; clear k23; refine kp [1, 3, 4, 5, 7, 35, 36, 37, 38, 45] ?_
   refine cd (fun hc24 => ?_) (fun hc24 => ?_)
   ·(try simp only [zB, reduceCtorEq] at hc24)
    refine ai fun _ k25 => ?_
    refine ak hP hN rfl ?_
    iterate 4 (refine aj rfl fun _ k0 => ?_; simp only [zO, zT, acs, reduceCtorEq, aa, V, ad, ag, af, ae, Mly.av]; (repeat refine an ?_); (try refine .inl ?_); apply k0; clear k0; simp only [zP, V])
    refine am ?_
    apply k25; clear k25; refine kp [1, 3, 4, 5, 7, 35, 36, 37, 38, 45] ?_
    refine ak hP hN rfl ?_
    iterate 5 (refine aj rfl fun _ k0 => ?_; simp only [zO, zT, acs, reduceCtorEq, aa, V, ad, ag, af, ae, Mly.av]; (repeat refine an ?_); (try refine .inl ?_); apply k0; clear k0; simp only [zP, V])
    refine am ?_
    apply k21; clear k21; refine kp [1, 3, 4, 5, 7, 35, 36, 37, 38, 45] ?_
    refine ak hP hN rfl ?_
    iterate 2 (refine aj rfl fun _ k0 => ?_; simp only [zO, zT, acs, reduceCtorEq, aa, V, ad, ag, af, ae, Mly.av]; (repeat refine an ?_); (try refine .inl ?_); apply k0; clear k0; simp only [zP, V])
    refine am ?_
    first
    | (have hnin : ¬ ((m.row (l.getD i 0)).getD j 0 ∈ (((m.row (l.getD i 0)).take j).foldl bU l)) := by
         intro hin; rw [decide_eq_true hin] at hse; have hh := hc24; rw [hse] at hh; cases hh
       refine ⟨_, _, ?_, aw [1, 3, 4, 5, 35, 36, 37], j + 1, v2 + 1, by omega, ?_, rfl, ?_⟩
       · omega
       · exact RSet.take hm hR hx.1 hx.2 (j + 1)
       · rw [ge (by omega), eK hnin, ← mf ht.1 ht.2]; rfl)
    | (have hin : ((m.row (l.getD i 0)).getD j 0 ∈ (((m.row (l.getD i 0)).take j).foldl bU l)) := by
         have hh := hc24; rw [hse] at hh; exact of_decide_eq_true hh
       refine ⟨_, _, ?_, aw [1, 3, 4, 5, 35, 36, 37], j + 1, v2, by omega, ?_, rfl, ?_⟩
       · omega
       · exact RSet.take hm hR hx.1 hx.2 (j + 1)
       · rw [ge (by omega), fU hin]; rfl)
   (try simp only [zB, reduceCtorEq] at hc24)
   refine ax ?_
   apply k21; clear k21; refine kp [1, 3, 4, 5, 7, 35, 36, 37, 38, 45] ?_
   refine ak hP hN rfl ?_
   iterate 2 (refine aj rfl fun _ k0 => ?_; simp only [zO, zT, acs, reduceCtorEq, aa, V, ad, ag, af, ae, Mly.av]; (repeat refine an ?_); (try refine .inl ?_); apply k0; clear k0; simp only [zP, V])
   refine am ?_
   first
   | (have hnin : ¬ ((m.row (l.getD i 0)).getD j 0 ∈ (((m.row (l.getD i 0)).take j).foldl bU l)) := by
        intro hin; rw [decide_eq_true hin] at hse; have hh := hc24; rw [hse] at hh; cases hh
      refine ⟨_, _, ?_, aw [1, 3, 4, 5, 35, 36, 37], j + 1, v2 + 1, by omega, ?_, rfl, ?_⟩
      · omega
      · exact RSet.take hm hR hx.1 hx.2 (j + 1)
      · rw [ge (by omega), eK hnin, ← mf ht.1 ht.2]; rfl)
   | (have hin : ((m.row (l.getD i 0)).getD j 0 ∈ (((m.row (l.getD i 0)).take j).foldl bU l)) := by
        have hh := hc24; rw [hse] at hh; exact of_decide_eq_true hh
      refine ⟨_, _, ?_, aw [1, 3, 4, 5, 35, 36, 37], j + 1, v2, by omega, ?_, rfl, ?_⟩
      · omega
      · exact RSet.take hm hR hx.1 hx.2 (j + 1)
      · rw [ge (by omega), fU hin]; rfl)
  (try simp only [zB, reduceCtorEq] at hc20)
  refine aX ?_
  apply k15; clear k15; refine kp [1, 3, 4, 5, 35, 36, 37, 38] ?_
  refine ak hP hN rfl ?_
  iterate 3 (refine aj rfl fun _ k0 => ?_; simp only [zO, zT, acs, reduceCtorEq, aa, V, ad, ag, af, ae, Mly.av]; (repeat refine an ?_); (try refine .inl ?_); apply k0; clear k0; simp only [zP, V])
  refine am ?_
  have hjr : (m.row (l.getD i 0)).take j = m.row (l.getD i 0) := List.take_of_length_le (by omega)
  rw [hjr] at hRc
  have hge := lH (m.row (l.getD i 0)) l
  refine ⟨_, _, ?_, aw [1, 3, 4, 5], i + 1, (m.row (l.getD i 0)).foldl bU l, v2, hRc, ?_, by omega, rfl, ?_⟩
  · omega
  · rw [← hrf, show m.nx.length + 1 - i = (m.nx.length + 1 - (i + 1)) + 1 by omega, gA m _ _ _ (by omega)]
  · rw [hjr]; rfl
 (try simp only [zB, reduceCtorEq] at hc14)
 refine aX ?_
 apply k9; clear k9; refine kp [1, 3, 4, 5, 25] ?_
 refine ai fun _ k26 => ?_
 refine ak hP hN rfl ?_
 iterate 2 (refine aj rfl fun _ k0 => ?_; simp only [zO, zT, acs, reduceCtorEq, aa, V, ad, ag, af, ae, Mly.av]; (repeat refine an ?_); (try refine .inl ?_); apply k0; clear k0; simp only [zP, V])
 refine am ?_
 apply k26; clear k26; refine kp [1, 2, 3, 4, 5, 25] ?_
 refine aB ?_
 refine ⟨nr, _, rfl, ?_⟩; simp only [zF, zP, aa, V, Mly.av]
 first
 | (rw [oK ‹¬aO m = 0›]; exact m3 (bz rfl))
 | (rw [← hrf, fy _ _ _ _ (by omega)]; exact VLE.of_eq (by simp))
theorem At (m : Mly) : bZ Try.prog 81 [m.av] (.tup [m.trim.av, .one (.int .i64 (aO m))]) := by
 refine aU Try.func81 rfl (by kernel_rfl) (Nat.le_of_ble_eq_true rfl) rfl fun C hP hN hB => ?_
 replace hN : C.N = 89 := hN
 simp only [bg, V]
 refine ai fun _ k1 => ?_
 refine ak hP hN rfl ?_
 iterate 3 (refine aj rfl fun _ k0 => ?_; simp only [zO, zT, acs, reduceCtorEq, aa, V, ad, ag, af, ae, Mly.av]; (repeat refine an ?_); (try refine .inl ?_); apply k0; clear k0; simp only [zP, V])
 refine am ?_
 apply k1; clear k1; refine kp [0, 1, 2, 3] ?_
 refine ai fun _ k2 => ?_
 refine ai fun _ k3 => ?_
 refine ak hP hN rfl ?_
 (refine aj rfl fun _ k0 => ?_; simp only [zO, zT, acs, reduceCtorEq, aa, V, ad, ag, af, ae, Mly.av]; (repeat refine an ?_); (try refine .inl ?_); apply k0; clear k0; simp only [zP, V])
 refine aj rfl fun _ k0 => ?_
 refine aN (h := aA (jy m)) rfl rfl (by first | exact rfl | (simp only [ev, zP, aa, V]; exact rfl)) (by simp only [zV, acs, reduceCtorEq, aa, V, ad, ag, af, ae, Mly.av]) ?_
 apply k0; clear k0; simp only [zP, V]
 (refine aj rfl fun _ k0 => ?_; simp only [zO, zT, acs, reduceCtorEq, aa, V, ad, ag, af, ae, Mly.av]; (repeat refine an ?_); (try refine .inl ?_); apply k0; clear k0; simp only [zP, V])
 refine am ?_
 apply k3; clear k3; refine kp [0, 1, 2, 3, 4] ?_
 refine ai fun _ k4 => ?_
 refine ak hP hN rfl ?_
 iterate 2 (refine aj rfl fun _ k0 => ?_; simp only [zO, zT, acs, reduceCtorEq, aa, V, ad, ag, af, ae, Mly.av]; (repeat refine an ?_); (try refine .inl ?_); apply k0; clear k0; simp only [zP, V])
 refine am ?_
 apply k4; clear k4; refine kp [0, 1, 2, 3, 4, 18] ?_
 refine cd (fun hc5 => ?_) (fun hc5 => ?_)
 ·(try simp only [zB, reduceCtorEq] at hc5)
  refine ai fun _ k6 => ?_
  refine ak hP hN rfl ?_
  iterate 4 (refine aj rfl fun _ k0 => ?_; simp only [zO, zT, acs, reduceCtorEq, aa, V, ad, ag, af, ae, Mly.av]; (repeat refine an ?_); (try refine .inl ?_); apply k0; clear k0; simp only [zP, V])
  refine am ?_
  apply k6; clear k6; refine kp [0, 1, 2, 3, 4, 18] ?_
  refine aB ?_
  refine ⟨nr, _, rfl, ?_⟩; simp only [zF, zP, aa, V, Mly.av]
  first
  | (rw [qY ‹¬aO m = 0›]
     exact cv ⟨dq ⟨.refl _, .refl _, bz rfl, bz rfl, trivial⟩, aZ (.refl _), trivial⟩)
  | (rw [pe hv, hv]
     have hk3 : k = m.reach.length := by omega
     have e1 : m.tnx.take k = m.tnx := List.take_of_length_le (by simp [Mly.tnx]; omega)
     have e2 : m.tot.take k = m.tot := List.take_of_length_le (by simp [Mly.tot]; omega)
     rw [e1, e2]
     exact VLE.of_eq (by simp [fzC]; rfl))
 (try simp only [zB, reduceCtorEq] at hc5)
 refine ax ?_
 apply k2; clear k2; refine kp [0, 1, 2, 3, 4, 18] ?_
 refine ai fun _ k7 => ?_
 refine ak hP hN rfl ?_
 (refine aj rfl fun _ k0 => ?_; simp only [zO, zT, acs, reduceCtorEq, aa, V, ad, ag, af, ae, Mly.av]; (repeat refine an ?_); (try refine .inl ?_); apply k0; clear k0; simp only [zP, V])
 refine aj rfl fun _ k0 => ?_
 refine aN (h := aA (uc m)) rfl rfl (by first | exact rfl | (simp only [ev, zP, aa, V]; exact rfl)) (by simp only [zV, acs, reduceCtorEq, aa, V, ad, ag, af, ae, Mly.av]) ?_
 apply k0; clear k0; simp only [zP, V]
 (refine aj rfl fun _ k0 => ?_; simp only [zO, zT, acs, reduceCtorEq, aa, V, ad, ag, af, ae, Mly.av]; (repeat refine an ?_); (try refine .inl ?_); apply k0; clear k0; simp only [zP, V])
 refine am ?_
 apply k7; clear k7; refine kp [0, 1, 2, 3, 4, 5, 18] ?_
 refine ai fun _ k8 => ?_
 have hv : aO m = 0 := by assumption
 have hm := fa hv; have h3 := hm.n2; have hR := fK hm; have hRl := hR.len; have hi1 := hm.i1; have hi2 := hm.i2; have hol := hm.ol
 refine ak hP hN rfl ?_
 iterate 3 (refine aj rfl fun _ k0 => ?_; simp only [zO, zT, acs, reduceCtorEq, aa, V, ad, ag, af, ae, Mly.av]; (repeat refine an ?_); (try refine .inl ?_); apply k0; clear k0; simp only [zP, V])
 (refine aj rfl fun _ k0 => ?_; simp only [zE, op1, ev, lkp, d5, bQ, bM, d4, Nat.mul_one, bS, cI, acs, Ty.dflt, zG, bY, cr, fo, ew, cK, d7, eE, Nat.div_one, cR, df, Ty.size, br, dite_true, cQ, reduceCtorEq, aa, V, ad, ag, af, ae, Try.el22, Try.el41, Try.st24, Try.td2, Try.td22, Try.td24, Try.td3, Try.td41, Mly.av]; (repeat refine an ?_); (try refine .inl ?_); apply k0; clear k0; simp only [zP, V])
 (refine aj rfl fun _ k0 => ?_; simp only [zO, zT, acs, reduceCtorEq, aa, V, ad, ag, af, ae, Mly.av]; (repeat refine an ?_); (try refine .inl ?_); apply k0; clear k0; simp only [zP, V])
 refine am ?_
 apply k8; clear k8; refine kp [0, 1, 2, 3, 4, 5, 6, 18] ?_
 refine ai fun _ k9 => ?_
 refine ai fun _ k10 => ?_
 refine ak hP hN rfl ?_
 iterate 3 (refine aj rfl fun _ k0 => ?_; simp only [zO, zT, acs, reduceCtorEq, aa, V, ad, ag, af, ae, Mly.av]; (repeat refine an ?_); (try refine .inl ?_); apply k0; clear k0; simp only [zP, V])
 refine am ?_
 apply k10; clear k10; refine kp [0, 1, 2, 3, 4, 5, 6, 18, 27, 28, 29] ?_
 refine ay ?_
 refine bb (fun n11 s11 => ∃ (k : Nat), (k ≤ m.reach.length) ∧ n11 = m.reach.length - k ∧ s11 = { env := [(1, .one (.ptr 0 0 0 0)), (2, .one (.ptr 1 0 0 0)), (5, .one (.list (.int .i64) m.reach)), (6, .one (.row 2 0)), (27, .one (.list (.int .i64) m.reach)), (28, .one (.int .i64 (m.reach.length : Int))), (29, .one (.int .i64 (k : Int)))], L := [.vars 24 [.int .i64 m.inp, .int .i64 m.st, .list (.list (.int .i64)) m.nx, .list (.list (.int .i64)) m.ot], .vars 24 [.int .i64 0, .int .i64 0, .nils, .nils], .row (.int .i64) 3 0 (ni m.nx.length m.reach k)] }) ?_ ?_
 ·exact ⟨_, _, aw [1, 2, 5, 6, 27, 28, 29], 0, Nat.zero_le _, rfl, rfl⟩
 rintro n11 s11 ⟨k, hk, rfl, rfl⟩
 refine ai fun _ k12 => ?_
 refine ak hP hN rfl ?_
 (refine aj rfl fun _ k0 => ?_; simp only [zO, zT, acs, reduceCtorEq, aa, V, ad, ag, af, ae, Mly.av]; (repeat refine an ?_); (try refine .inl ?_); apply k0; clear k0; simp only [zP, V])
 refine am ?_
 apply k12; clear k12; refine kp [1, 2, 5, 6, 27, 28, 29, 30] ?_
 refine ai fun _ k13 => ?_
 refine cd (fun hc14 => ?_) (fun hc14 => ?_)
 ·(try simp only [zB, reduceCtorEq] at hc14)
  refine ax ?_
  apply k13; clear k13; refine kp [1, 2, 5, 6, 27, 28, 29, 30] ?_
  refine ai fun _ k15 => ?_
  refine ay ?_
  refine ai fun _ k16 => ?_
  refine ak hP hN rfl ?_
  iterate 5 (refine aj rfl fun _ k0 => ?_; simp only [zO, zT, acs, reduceCtorEq, aa, V, ad, ag, af, ae, Mly.av]; (repeat refine an ?_); (try refine .inl ?_); apply k0; clear k0; simp only [zP, V])
  refine am ?_
  apply k16; clear k16; refine kp [1, 2, 5, 6, 7, 8, 27, 28, 29, 30] ?_
  have hx := hR.at_ (i := k) (by omega); have hnl := ki m.nx.length m.reach k
  refine ak hP hN rfl ?_
  iterate 5 (refine aj rfl fun _ k0 => ?_; simp only [zO, zT, acs, reduceCtorEq, aa, V, ad, ag, af, ae, Mly.av]; (repeat refine an ?_); (try refine .inl ?_); apply k0; clear k0; simp only [zP, V])
  refine am ?_
  apply k15; clear k15; refine kp [1, 2, 5, 6, 7, 8, 27, 28, 29, 30] ?_
  refine ak hP hN rfl ?_
  iterate 2 (refine aj rfl fun _ k0 => ?_; simp only [zO, zT, acs, reduceCtorEq, aa, V, ad, ag, af, ae, Mly.av]; (repeat refine an ?_); (try refine .inl ?_); apply k0; clear k0; simp only [zP, V])
  refine am ?_
  refine ⟨_, _, ?_, aw [1, 2, 5, 6, 27, 28, 29], k + 1, by omega, rfl, rfl⟩
  · omega
 (try simp only [zB, reduceCtorEq] at hc14)
 refine aX ?_
 apply k9; clear k9; refine kp [1, 2, 5, 6, 27, 28, 29, 30] ?_
 refine ai fun _ k17 => ?_
 refine ak hP hN rfl ?_
 iterate 5 (refine aj rfl fun _ k0 => ?_; simp only [zO, zT, acs, reduceCtorEq, aa, V, ad, ag, af, ae, Mly.av]; (repeat refine an ?_); (try refine .inl ?_); apply k0; clear k0; simp only [zP, V])
 refine am ?_
 apply k17; clear k17; refine kp [1, 2, 5, 6, 9, 27, 28, 29, 30] ?_
 refine ai fun _ k18 => ?_
 refine ai fun _ k19 => ?_
 refine ak hP hN rfl ?_
 iterate 3 (refine aj rfl fun _ k0 => ?_; simp only [zO, zT, acs, reduceCtorEq, aa, V, ad, ag, af, ae, Mly.av]; (repeat refine an ?_); (try refine .inl ?_); apply k0; clear k0; simp only [zP, V])
 refine am ?_
 apply k19; clear k19; refine kp [1, 2, 5, 6, 9, 27, 28, 29, 30, 42, 43, 44] ?_
 refine ay ?_
 refine eF 3 2 (.list (.int .i64)) 41 (by decide) rfl rfl ?_; simp only [zS, au, aE, aM, ba, Nat.zero_add, V]
 refine eF 3 3 (.list (.int .i64)) 41 (by decide) rfl rfl ?_; simp only [zS, au, aE, aM, ba, Nat.zero_add, V]
 have hkl : k = m.reach.length := by omega
 refine bb (fun n20 s20 => ∃ (k : Nat) (v : Nat), (k ≤ m.reach.length) ∧ n20 = m.reach.length - k ∧ s20 = { env := [(1, .one (.ptr 0 0 0 0)), (2, .one (.ptr 1 0 0 0)), (6, .one (.row 2 0)), (9, .one (.ptr 3 0 0 0)), (42, .one (.list (.int .i64) m.reach)), (43, .one (.int .i64 (m.reach.length : Int))), (44, .one (.int .i64 (k : Int)))], L := [.vars 24 [.int .i64 m.inp, .int .i64 m.st, .list (.list (.int .i64)) m.nx, .list (.list (.int .i64)) m.ot], .vars 24 [.int .i64 0, .int .i64 0, .nils, .nils], .row (.int .i64) 3 0 m.num, .vars 24 [.int .i64 m.inp, .int .i64 0, .row 4 v, .row 5 v], .row (.list (.int .i64)) 41 v (m.tnx.take k), .row (.list (.int .i64)) 41 v (m.tot.take k)] }) ?_ ?_
 ·refine ⟨_, _, aw [1, 2, 6, 9, 42, 43, 44], 0, 0, Nat.zero_le _, rfl, ?_⟩
  rw [hkl]; rfl
 rintro n20 s20 ⟨k, v, hk2, rfl, rfl⟩
 refine ai fun _ k21 => ?_
 refine ak hP hN rfl ?_
 (refine aj rfl fun _ k0 => ?_; simp only [zO, zT, acs, reduceCtorEq, aa, V, ad, ag, af, ae, Mly.av]; (repeat refine an ?_); (try refine .inl ?_); apply k0; clear k0; simp only [zP, V])
 refine am ?_
 apply k21; clear k21; refine kp [1, 2, 6, 9, 42, 43, 44, 45] ?_
 refine ai fun _ k22 => ?_
 refine cd (fun hc23 => ?_) (fun hc23 => ?_)
 ·(try simp only [zB, reduceCtorEq] at hc23)
  refine ax ?_
  apply k22; clear k22; refine kp [1, 2, 6, 9, 42, 43, 44, 45] ?_
  refine ai fun _ k24 => ?_
  refine ay ?_
  refine ai fun _ k25 => ?_
  have hx := hR.at_ (i := k) (by omega)
  refine ak hP hN rfl ?_
  iterate 3 (refine aj rfl fun _ k0 => ?_; simp only [zO, zT, acs, reduceCtorEq, aa, V, ad, ag, af, ae, Mly.av]; (repeat refine an ?_); (try refine .inl ?_); apply k0; clear k0; simp only [zP, V])
  refine am ?_
  apply k25; clear k25; refine kp [1, 2, 6, 9, 11, 42, 43, 44, 45] ?_
  refine ai fun _ k26 => ?_
  have hrow : ((m.row (m.reach.getD k 0)).length : Int) = m.inp := hm.rl (m.reach.getD k 0).toNat (by omega); have hrot := hm.ql (m.reach.getD k 0).toNat (by omega)
  refine ak hP hN rfl ?_
  iterate 2 (refine aj rfl fun _ k0 => ?_; simp only [zO, zT, acs, reduceCtorEq, aa, V, ad, ag, af, ae, Mly.av]; (repeat refine an ?_); (try refine .inl ?_); apply k0; clear k0; simp only [zP, V])
  (refine aj rfl fun _ k0 => ?_; simp only [zE, op1, ev, lkp, d5, bQ, bM, d4, Nat.mul_one, bS, cI, acs, Ty.dflt, zG, bY, cQ, br, Ty.size, reduceCtorEq, aa, V, ad, ag, af, ae, Try.el41, Try.st24, Try.td24, Try.td3, Try.td41, Mly.av]; (repeat refine an ?_); (try refine .inl ?_); apply k0; clear k0; simp only [zP, V])
  (refine aj rfl fun _ k0 => ?_; simp only [zO, zT, acs, reduceCtorEq, aa, V, ad, ag, af, ae, Mly.av]; (repeat refine an ?_); (try refine .inl ?_); apply k0; clear k0; simp only [zP, V])
  refine am ?_
  apply k26; clear k26; refine kp [1, 2, 6, 9, 11, 12, 42, 43, 44, 45] ?_
  refine ai fun _ k27 => ?_
  refine ai fun _ k28 => ?_
  refine ak hP hN rfl ?_
  iterate 7 (refine aj rfl fun _ k0 => ?_; simp only [zO, zT, acs, reduceCtorEq, aa, V, ad, ag, af, ae, Mly.av]; (repeat refine an ?_); (try refine .inl ?_); apply k0; clear k0; simp only [zP, V])
  refine am ?_
  apply k28; clear k28; refine kp [1, 2, 6, 9, 11, 12, 42, 43, 44, 45, 55, 56, 57] ?_
  refine ay ?_
  refine bb (fun n29 s29 => ∃ (j : Nat), (j ≤ (m.row (m.reach.getD k 0)).length) ∧ n29 = (m.row (m.reach.getD k 0)).length - j ∧ s29 = { env := [(1, .one (.ptr 0 0 0 0)), (2, .one (.ptr 1 0 0 0)), (6, .one (.row 2 0)), (9, .one (.ptr 3 0 0 0)), (11, .one (.int .i64 (m.reach.getD k 0))), (12, .one (.row 6 0)), (42, .one (.list (.int .i64) m.reach)), (43, .one (.int .i64 (m.reach.length : Int))), (44, .one (.int .i64 (k : Int))), (55, .one (.list (.int .i64) (m.row (m.reach.getD k 0)))), (56, .one (.int .i64 ((m.row (m.reach.getD k 0)).length : Int))), (57, .one (.int .i64 (j : Int)))], L := [.vars 24 [.int .i64 m.inp, .int .i64 m.st, .list (.list (.int .i64)) m.nx, .list (.list (.int .i64)) m.ot], .vars 24 [.int .i64 0, .int .i64 0, .nils, .nils], .row (.int .i64) 3 0 m.num, .vars 24 [.int .i64 m.inp, .int .i64 0, .row 4 v, .row 5 v], .row (.list (.int .i64)) 41 v (m.tnx.take k), .row (.list (.int .i64)) 41 v (m.tot.take k), .row (.int .i64) 3 0 (gS m.num (m.row (m.reach.getD k 0)) j)] }) ?_ ?_
  ·refine ⟨_, _, aw [1, 2, 6, 9, 11, 12, 42, 43, 44, 55, 56, 57], 0, Nat.zero_le _, rfl, ?_⟩
   rw [th, show (m.row (m.reach.getD k 0)).length = m.inp.toNat by omega]; rfl
  rintro n29 s29 ⟨j, hj, rfl, rfl⟩
  refine ai fun _ k30 => ?_
  refine ak hP hN rfl ?_
  (refine aj rfl fun _ k0 => ?_; simp only [zO, zT, acs, reduceCtorEq, aa, V, ad, ag, af, ae, Mly.av]; (repeat refine an ?_); (try refine .inl ?_); apply k0; clear k0; simp only [zP, V])
  refine am ?_
  apply k30; clear k30; refine kp [1, 2, 6, 9, 11, 12, 42, 43, 44, 55, 56, 57, 58] ?_
  refine ai fun _ k31 => ?_
  refine cd (fun hc32 => ?_) (fun hc32 => ?_)
  ·(try simp only [zB, reduceCtorEq] at hc32)
   refine ax ?_
   apply k31; clear k31; refine kp [1, 2, 6, 9, 11, 12, 42, 43, 44, 55, 56, 57, 58] ?_
   refine ai fun _ k33 => ?_
   refine ay ?_
   refine ai fun _ k34 => ?_
   refine ak hP hN rfl ?_
   iterate 5 (refine aj rfl fun _ k0 => ?_; simp only [zO, zT, acs, reduceCtorEq, aa, V, ad, ag, af, ae, Mly.av]; (repeat refine an ?_); (try refine .inl ?_); apply k0; clear k0; simp only [zP, V])
   refine am ?_
   apply k34; clear k34; refine kp [1, 2, 6, 9, 11, 12, 13, 14, 42, 43, 44, 55, 56, 57, 58] ?_
   have ht := gy hm hx.1 hx.2 ((m.row (m.reach.getD k 0)).getD j 0) (bm (by omega)); have hnl : m.num.length = m.nx.length := ki _ _ _; have hnf := v8 m.num (m.row (m.reach.getD k 0)) hj
   refine ak hP hN rfl ?_
   iterate 8 (refine aj rfl fun _ k0 => ?_; simp only [zO, zT, acs, reduceCtorEq, aa, V, ad, ag, af, ae, Mly.av]; (repeat refine an ?_); (try refine .inl ?_); apply k0; clear k0; simp only [zP, V])
   refine am ?_
   apply k33; clear k33; refine kp [1, 2, 6, 9, 11, 12, 13, 14, 42, 43, 44, 55, 56, 57, 58] ?_
   refine ak hP hN rfl ?_
   iterate 2 (refine aj rfl fun _ k0 => ?_; simp only [zO, zT, acs, reduceCtorEq, aa, V, ad, ag, af, ae, Mly.av]; (repeat refine an ?_); (try refine .inl ?_); apply k0; clear k0; simp only [zP, V])
   refine am ?_
   refine ⟨_, _, ?_, aw [1, 2, 6, 9, 11, 12, 42, 43, 44, 55, 56, 57], j + 1, by omega, rfl, ?_⟩
   · omega
   · rw [← vq _ _ (by omega)]; rfl
  (try simp only [zB, reduceCtorEq] at hc32)
  refine aX ?_
  apply k27; clear k27; refine kp [1, 2, 6, 9, 11, 12, 42, 43, 44, 55, 56, 57, 58] ?_
  refine ai fun _ k35 => ?_
  refine cO 6 rfl ?_; simp only [aF, bl, zS, aa, and_self, and_true, true_and, and_false, false_and, if_true, if_false, eq_self, reduceCtorEq, Nat.one_ne_zero, Nat.zero_ne_one]
  have htl : (m.tnx.take k).length = k := by simp [Mly.tnx]; omega
  have hol2 : (m.tot.take k).length = k := by simp [Mly.tot]; omega
  refine ak hP hN rfl ?_
  iterate 7 (refine aj rfl fun _ k0 => ?_; simp only [zO, zT, acs, reduceCtorEq, aa, V, ad, ag, af, ae, Mly.av]; (repeat refine an ?_); (try refine .inl ?_); apply k0; clear k0; simp only [zP, V])
  refine am ?_
  apply k35; clear k35; refine kp [1, 2, 6, 9, 11, 12, 42, 43, 44, 55, 56, 57, 58] ?_
  refine bp hP hN Try.mixed rfl ?_
  iterate 7 (refine aj rfl fun _ k0 => ?_; simp only [zO, zT, acs, reduceCtorEq, aa, V, ad, ag, af, ae, Mly.av]; (repeat refine an ?_); (try refine .inl ?_); apply k0; clear k0; simp only [zP, V])
  refine aj rfl fun _ k0 => ?_
  refine aN (h := aA (um (m.ot.getD (m.reach.getD k 0).toNat []) (by omega))) rfl rfl (by first | exact rfl | (simp only [ev, zP, aa, V]; exact rfl)) (by simp only [zV, acs, reduceCtorEq, aa, V, ad, ag, af, ae, Mly.av]) ?_
  apply k0; clear k0; simp only [zP, V]
  iterate 4 (refine aj rfl fun _ k0 => ?_; simp only [zO, zT, acs, reduceCtorEq, aa, V, ad, ag, af, ae, Mly.av]; (repeat refine an ?_); (try refine .inl ?_); apply k0; clear k0; simp only [zP, V])
  refine am ?_
  refine ⟨by kernel_rfl, ?_⟩
  apply k24; clear k24; refine kp [1, 2, 6, 9, 11, 12, 42, 43, 44, 55, 56, 57, 58] ?_
  refine cM (n := 6) (L1 := [_, _, _, _, _, _]) rfl rfl (by rw [hB]; decide) rfl rfl ?_
  refine ak hP hN rfl ?_
  iterate 2 (refine aj rfl fun _ k0 => ?_; simp only [zO, zT, acs, reduceCtorEq, aa, V, ad, ag, af, ae, Mly.av]; (repeat refine an ?_); (try refine .inl ?_); apply k0; clear k0; simp only [zP, V])
  refine am ?_
  have hjr : j = (m.row (m.reach.getD k 0)).length := by omega
  refine ⟨_, _, ?_, aw [1, 2, 6, 9, 42, 43, 44], k + 1, v + 1, by omega, rfl, ?_⟩
  · omega
  · rw [show m.tnx.take (k + 1) = m.tnx.take k ++ [gS m.num (m.row (m.reach.getD k 0)) j] by rw [hjr, vl]; exact jD _ 0 (by omega), show m.tot.take (k + 1) = m.tot.take k ++ [m.ot.getD (m.reach.getD k 0).toNat []] from jD _ 0 (by omega)]; rfl
 (try simp only [zB, reduceCtorEq] at hc23)
 refine aX ?_
 apply k18; clear k18; refine kp [1, 2, 6, 9, 42, 43, 44, 45] ?_
 refine ai fun _ k36 => ?_
 refine ak hP hN rfl ?_
 iterate 3 (refine aj rfl fun _ k0 => ?_; simp only [zO, zT, acs, reduceCtorEq, aa, V, ad, ag, af, ae, Mly.av]; (repeat refine an ?_); (try refine .inl ?_); apply k0; clear k0; simp only [zP, V])
 refine am ?_
 apply k36; clear k36; refine kp [1, 2, 3, 6, 9, 42, 43, 44, 45] ?_
 refine aB ?_
 refine ⟨nr, _, rfl, ?_⟩; simp only [zF, zP, aa, V, Mly.av]
 first
 | (rw [qY ‹¬aO m = 0›]
    exact cv ⟨dq ⟨.refl _, .refl _, bz rfl, bz rfl, trivial⟩, aZ (.refl _), trivial⟩)
 | (rw [pe hv, hv]
    have hk3 : k = m.reach.length := by omega
    have e1 : m.tnx.take k = m.tnx := List.take_of_length_le (by simp [Mly.tnx]; omega)
    have e2 : m.tot.take k = m.tot := List.take_of_length_le (by simp [Mly.tot]; omega)
    rw [e1, e2]
    exact VLE.of_eq (by simp [fzC]; rfl))
set_option maxHeartbeats 1000000 in
theorem B4 (m : Mly) : bZ Try.prog 70 [m.av] (.tup [m.mres.av, .one (.int .i64 (aO m))]) := by
 refine aU Try.func70 rfl (by kernel_rfl) (Nat.le_of_ble_eq_true rfl) rfl fun C hP hN hB => ?_
 replace hN : C.N = 84 := hN
 simp only [bg, V]
 refine ai fun _ k1 => ?_
 refine ak hP hN rfl ?_
 iterate 3 (refine aj rfl fun _ k0 => ?_; simp only [zO, zT, acs, reduceCtorEq, aa, V, ad, ag, af, ae, Mly.av]; (repeat refine an ?_); (try refine .inl ?_); apply k0; clear k0; simp only [zP, V])
 refine am ?_
 apply k1; clear k1; refine kp [0, 1, 2, 3] ?_
 refine ai fun _ k2 => ?_
 refine ak hP hN rfl ?_
 (refine aj rfl fun _ k0 => ?_; simp only [zO, zT, acs, reduceCtorEq, aa, V, ad, ag, af, ae, Mly.av]; (repeat refine an ?_); (try refine .inl ?_); apply k0; clear k0; simp only [zP, V])
 refine aj rfl fun _ k0 => ?_
 refine aN (h := aA (At m)) rfl rfl (by first | exact rfl | (simp only [ev, zP, aa, V]; exact rfl)) (by simp only [zV, acs, reduceCtorEq, aa, V, ad, ag, af, ae, Mly.av]) ?_
 apply k0; clear k0; simp only [zP, V]
 iterate 6 (refine aj rfl fun _ k0 => ?_; simp only [zO, zT, acs, reduceCtorEq, aa, V, ad, ag, af, ae, Mly.av]; (repeat refine an ?_); (try refine .inl ?_); apply k0; clear k0; simp only [zP, V])
 refine am ?_
 apply k2; clear k2; refine kp [0, 1, 2, 3, 4, 5] ?_
 refine ai fun _ k3 => ?_
 refine ai fun _ k4 => ?_
 refine ak hP hN rfl ?_
 iterate 2 (refine aj rfl fun _ k0 => ?_; simp only [zO, zT, acs, reduceCtorEq, aa, V, ad, ag, af, ae, Mly.av]; (repeat refine an ?_); (try refine .inl ?_); apply k0; clear k0; simp only [zP, V])
 refine am ?_
 apply k4; clear k4; refine kp [0, 1, 2, 3, 4, 5, 19] ?_
 refine cd (fun hc5 => ?_) (fun hc5 => ?_)
 ·(try simp only [zB, reduceCtorEq] at hc5)
  refine ai fun _ k6 => ?_
  refine ak hP hN rfl ?_
  iterate 4 (refine aj rfl fun _ k0 => ?_; simp only [zO, zT, acs, reduceCtorEq, aa, V, ad, ag, af, ae, Mly.av]; (repeat refine an ?_); (try refine .inl ?_); apply k0; clear k0; simp only [zP, V])
  refine am ?_
  apply k6; clear k6; refine kp [0, 1, 2, 3, 4, 5, 19] ?_
  refine aB ?_
  refine ⟨nr, _, rfl, ?_⟩; simp only [zF, zP, aa, V, Mly.av]
  first
  | (rw [mH ‹¬aO m = 0›]; exact cv ⟨dq ⟨.refl _, .refl _, bz rfl, bz rfl, trivial⟩, aZ (.refl _), trivial⟩)
  | (have hk3 : k = m.trim.nx.length := by omega
     subst hk3
     rw [tI hv, hv]
     exact VLE.of_eq (by simp [fzC]; rfl))
 (try simp only [zB, reduceCtorEq] at hc5)
 have hv : aO m = 0 := by omega
 have hm := fa hv; have ht : MOK m.trim := by rw [wL hv]; exact rE hm
 have hvt := dp ht; have hst := f8 ht; have hel := hst.len; have hn2 := ht.n2; have hi1 := ht.i1; have hi2 := ht.i2; have hol := ht.ol; have hn1 := ht.n1
 refine ax ?_
 apply k3; clear k3; refine kp [0, 1, 2, 3, 4, 5, 19] ?_
 refine ai fun _ k7 => ?_
 refine ak hP hN rfl ?_
 (refine aj rfl fun _ k0 => ?_; simp only [zO, zT, acs, reduceCtorEq, aa, V, ad, ag, af, ae, Mly.av]; (repeat refine an ?_); (try refine .inl ?_); apply k0; clear k0; simp only [zP, V])
 refine aj rfl fun _ k0 => ?_
 refine aN (h := aA (tC m.trim hvt)) rfl rfl (by first | exact rfl | (simp only [ev, zP, aa, V]; exact rfl)) (by simp only [zV, acs, reduceCtorEq, aa, V, ad, ag, af, ae, Mly.av]) ?_
 apply k0; clear k0; simp only [zP, V]
 iterate 5 (refine aj rfl fun _ k0 => ?_; simp only [zO, zT, acs, reduceCtorEq, aa, V, ad, ag, af, ae, Mly.av]; (repeat refine an ?_); (try refine .inl ?_); apply k0; clear k0; simp only [zP, V])
 refine am ?_
 apply k7; clear k7; refine kp [0, 1, 2, 3, 4, 5, 6, 19] ?_
 refine ai fun _ k8 => ?_
 refine ai fun _ k9 => ?_
 refine ak hP hN rfl ?_
 iterate 2 (refine aj rfl fun _ k0 => ?_; simp only [zO, zT, acs, reduceCtorEq, aa, V, ad, ag, af, ae, Mly.av]; (repeat refine an ?_); (try refine .inl ?_); apply k0; clear k0; simp only [zP, V])
 refine am ?_
 apply k9; clear k9; refine kp [0, 1, 2, 3, 4, 5, 6, 19, 28] ?_
 refine cd (fun hc10 => ?_) (fun hc10 => ?_)
 · exfalso; (try simp only [zB, reduceCtorEq] at hc10); all_goals (first | (cases hc10; done) | omega | (simp at hc10; done) | (simp_all; done))
 (try simp only [zB, reduceCtorEq] at hc10)
 refine ax ?_
 apply k8; clear k8; refine kp [0, 1, 2, 3, 4, 5, 6, 19, 28] ?_
 refine ai fun _ k11 => ?_
 refine ak hP hN rfl ?_
 iterate 5 (refine aj rfl fun _ k0 => ?_; simp only [zO, zT, acs, reduceCtorEq, aa, V, ad, ag, af, ae, Mly.av]; (repeat refine an ?_); (try refine .inl ?_); apply k0; clear k0; simp only [zP, V])
 refine am ?_
 apply k11; clear k11; refine kp [0, 1, 2, 3, 4, 5, 6, 7, 19, 28] ?_
 refine ai fun _ k12 => ?_
 refine ai fun _ k13 => ?_
 refine ak hP hN rfl ?_
 iterate 3 (refine aj rfl fun _ k0 => ?_; simp only [zO, zT, acs, reduceCtorEq, aa, V, ad, ag, af, ae, Mly.av]; (repeat refine an ?_); (try refine .inl ?_); apply k0; clear k0; simp only [zP, V])
 refine am ?_
 apply k13; clear k13; refine kp [0, 1, 2, 3, 4, 5, 6, 7, 19, 28, 34, 35, 36] ?_
 refine ay ?_
 refine eF 3 2 (.list (.int .i64)) 41 (by decide) rfl rfl ?_; simp only [zS, au, aE, aM, ba, Nat.zero_add, V]
 refine eF 3 3 (.list (.int .i64)) 41 (by decide) rfl rfl ?_; simp only [zS, au, aE, aM, ba, Nat.zero_add, V]
 refine bb (fun n14 s14 => ∃ (k : Nat) (v : Nat), (k ≤ m.trim.nx.length) ∧ n14 = m.trim.nx.length - k ∧ s14 = { env := [(2, .one (.ptr 1 0 0 0)), (3, .one (.int .i64 0)), (4, .one (.ptr 2 0 0 0)), (6, .one (.list (.int .i64) m.trim.eqc)), (7, .one (.ptr 3 0 0 0)), (34, .one (.list (.int .i64) m.trim.eqc)), (35, .one (.int .i64 (m.trim.eqc.length : Int))), (36, .one (.int .i64 (k : Int)))], L := [.vars 24 [.int .i64 m.inp, .int .i64 m.st, .list (.list (.int .i64)) m.nx, .list (.list (.int .i64)) m.ot], .vars 24 [.int .i64 0, .int .i64 0, .nils, .nils], .vars 24 [.int .i64 m.trim.inp, .int .i64 m.trim.st, .list (.list (.int .i64)) m.trim.nx, .list (.list (.int .i64)) m.trim.ot], .vars 24 [.int .i64 m.trim.inp, .int .i64 0, .row 4 v, .row 5 v], .row (.list (.int .i64)) 41 v (m.trim.qN k), .row (.list (.int .i64)) 41 v (m.trim.qO k)] }) ?_ ?_
 ·refine ⟨_, _, aw [2, 3, 4, 6, 7, 34, 35, 36], 0, 0, Nat.zero_le _, rfl, rfl⟩
 rintro n14 s14 ⟨k, v, hk, rfl, rfl⟩
 refine ai fun _ k15 => ?_
 refine ak hP hN rfl ?_
 (refine aj rfl fun _ k0 => ?_; simp only [zO, zT, acs, reduceCtorEq, aa, V, ad, ag, af, ae, Mly.av]; (repeat refine an ?_); (try refine .inl ?_); apply k0; clear k0; simp only [zP, V])
 refine am ?_
 apply k15; clear k15; refine kp [2, 3, 4, 6, 7, 34, 35, 36, 37] ?_
 refine ai fun _ k16 => ?_
 refine cd (fun hc17 => ?_) (fun hc17 => ?_)
 ·(try simp only [zB, reduceCtorEq] at hc17)
  refine ax ?_
  apply k16; clear k16; refine kp [2, 3, 4, 6, 7, 34, 35, 36, 37] ?_
  refine ai fun _ k18 => ?_
  refine ay ?_
  refine ai fun _ k19 => ?_
  refine ak hP hN rfl ?_
  iterate 5 (refine aj rfl fun _ k0 => ?_; simp only [zO, zT, acs, reduceCtorEq, aa, V, ad, ag, af, ae, Mly.av]; (repeat refine an ?_); (try refine .inl ?_); apply k0; clear k0; simp only [zP, V])
  refine am ?_
  apply k19; clear k19; refine kp [2, 3, 4, 6, 7, 8, 9, 34, 35, 36, 37] ?_
  refine ai fun _ k20 => ?_
  refine ai fun _ k21 => ?_
  have hrp := (rT (gv ht) k (by omega)).len; have hql := Aa m.trim k; have hqo := Ah m.trim k; have hcb := gv ht k (by omega); simp only [i6, Bool.or_eq_false_iff, decide_eq_false_iff_not] at hcb
  refine ak hP hN rfl ?_
  iterate 5 (refine aj rfl fun _ k0 => ?_; simp only [zO, zT, acs, reduceCtorEq, aa, V, ad, ag, af, ae, Mly.av]; (repeat refine an ?_); (try refine .inl ?_); apply k0; clear k0; simp only [zP, V])
  refine am ?_
  apply k21; clear k21; refine kp [2, 3, 4, 6, 7, 8, 9, 34, 35, 36, 37, 45] ?_
  refine cd (fun hc22 => ?_) (fun hc22 => ?_)
  ·(try simp only [zB, reduceCtorEq] at hc22)
   refine aX ?_
   apply k18; clear k18; refine kp [2, 3, 4, 6, 7, 8, 9, 34, 35, 36, 37, 45] ?_
   first | (refine cM (n := 7) (L1 := [_, _, _, _, _, _, _]) rfl rfl (by rw [hB]; decide) rfl rfl ?_; refine cM (n := 6) (L1 := [_, _, _, _, _, _]) rfl rfl (by rw [hB]; decide) rfl rfl ?_) | skip
   refine ak hP hN rfl ?_
   iterate 2 (refine aj rfl fun _ k0 => ?_; simp only [zO, zT, acs, reduceCtorEq, aa, V, ad, ag, af, ae, Mly.av]; (repeat refine an ?_); (try refine .inl ?_); apply k0; clear k0; simp only [zP, V])
   refine am ?_
   first
   | (have hnw : ¬ m.trim.eqc.getD k 0 = cN m.trim.eqc k := by omega
      refine ⟨_, _, ?_, aw [2, 3, 4, 6, 7, 34, 35, 36], k + 1, v, by omega, rfl, ?_⟩
      · omega
      · rw [(o9 hnw).1, (o9 hnw).2]; rfl)
   | (have hnw : m.trim.eqc.getD k 0 = cN m.trim.eqc k := by omega
      have hjr : j = (m.trim.nx.getD k []).length := by omega
      have htk : ((m.trim.nx.getD k []).take j).map m.trim.f = (m.trim.nx.getD k []).map m.trim.f := by rw [hjr, aJ]
      refine ⟨_, _, ?_, aw [2, 3, 4, 6, 7, 34, 35, 36], k + 1, v + 1, by omega, rfl, ?_⟩
      · omega
      · rw [(o4 hnw).1, (o4 hnw).2, ← htk]; rfl)
  (try simp only [zB, reduceCtorEq] at hc22)
  refine ax ?_
  apply k20; clear k20; refine kp [2, 3, 4, 6, 7, 8, 9, 34, 35, 36, 37, 45] ?_
  refine ai fun _ k23 => ?_
  refine ak hP hN rfl ?_
  (refine aj rfl fun _ k0 => ?_; simp only [zO, zT, acs, reduceCtorEq, aa, V, ad, ag, af, ae, Mly.av]; (repeat refine an ?_); (try refine .inl ?_); apply k0; clear k0; simp only [zP, V])
  refine am ?_
  apply k23; clear k23; refine kp [2, 3, 4, 6, 7, 8, 9, 10, 34, 35, 36, 37, 45] ?_
  refine ai fun _ k24 => ?_
  refine ai fun _ k25 => ?_
  have hrl := ht.rl k (by omega); have hrq := ht.ql k (by omega)
  refine ak hP hN rfl ?_
  iterate 7 (refine aj rfl fun _ k0 => ?_; simp only [zO, zT, acs, reduceCtorEq, aa, V, ad, ag, af, ae, Mly.av]; (repeat refine an ?_); (try refine .inl ?_); apply k0; clear k0; simp only [zP, V])
  refine am ?_
  apply k25; clear k25; refine kp [2, 3, 4, 6, 7, 8, 9, 10, 34, 35, 36, 37, 45, 50, 51, 52] ?_
  refine ay ?_
  refine fM 10 (.int .i64) 3 (by decide) rfl ?_; simp only [au, aE, aM, ba, Nat.zero_add, V]
  refine bb (fun n26 s26 => ∃ (j : Nat) (v2 : Nat), (j ≤ (m.trim.nx.getD k []).length) ∧ n26 = (m.trim.nx.getD k []).length - j ∧ s26 = { env := [(2, .one (.ptr 1 0 0 0)), (3, .one (.int .i64 0)), (4, .one (.ptr 2 0 0 0)), (6, .one (.list (.int .i64) m.trim.eqc)), (7, .one (.ptr 3 0 0 0)), (8, .one (.int .i64 (k : Int))), (9, .one (.int .i64 (m.trim.eqc.getD k 0))), (10, .one (.row 6 v2)), (34, .one (.list (.int .i64) m.trim.eqc)), (35, .one (.int .i64 (m.trim.eqc.length : Int))), (36, .one (.int .i64 (k : Int))), (50, .one (.list (.int .i64) (m.trim.nx.getD k []))), (51, .one (.int .i64 ((m.trim.nx.getD k []).length : Int))), (52, .one (.int .i64 (j : Int)))], L := [.vars 24 [.int .i64 m.inp, .int .i64 m.st, .list (.list (.int .i64)) m.nx, .list (.list (.int .i64)) m.ot], .vars 24 [.int .i64 0, .int .i64 0, .nils, .nils], .vars 24 [.int .i64 m.trim.inp, .int .i64 m.trim.st, .list (.list (.int .i64)) m.trim.nx, .list (.list (.int .i64)) m.trim.ot], .vars 24 [.int .i64 m.trim.inp, .int .i64 0, .row 4 v, .row 5 v], .row (.list (.int .i64)) 41 v (m.trim.qN k), .row (.list (.int .i64)) 41 v (m.trim.qO k), .row (.int .i64) 3 v2 (((m.trim.nx.getD k []).take j).map m.trim.f)] }) ?_ ?_
  ·refine ⟨_, _, aw [2, 3, 4, 6, 7, 8, 9, 10, 34, 35, 36, 50, 51, 52], 0, 0, Nat.zero_le _, rfl, rfl⟩
  rintro n26 s26 ⟨j, v2, hj, rfl, rfl⟩
  refine ai fun _ k27 => ?_
  refine ak hP hN rfl ?_
  (refine aj rfl fun _ k0 => ?_; simp only [zO, zT, acs, reduceCtorEq, aa, V, ad, ag, af, ae, Mly.av]; (repeat refine an ?_); (try refine .inl ?_); apply k0; clear k0; simp only [zP, V])
  refine am ?_
  apply k27; clear k27; refine kp [2, 3, 4, 6, 7, 8, 9, 10, 34, 35, 36, 50, 51, 52, 53] ?_
  refine ai fun _ k28 => ?_
  refine cd (fun hc29 => ?_) (fun hc29 => ?_)
  ·(try simp only [zB, reduceCtorEq] at hc29)
   refine ax ?_
   apply k28; clear k28; refine kp [2, 3, 4, 6, 7, 8, 9, 10, 34, 35, 36, 50, 51, 52, 53] ?_
   refine ai fun _ k30 => ?_
   refine ay ?_
   refine ai fun _ k31 => ?_
   refine ak hP hN rfl ?_
   iterate 3 (refine aj rfl fun _ k0 => ?_; simp only [zO, zT, acs, reduceCtorEq, aa, V, ad, ag, af, ae, Mly.av]; (repeat refine an ?_); (try refine .inl ?_); apply k0; clear k0; simp only [zP, V])
   refine am ?_
   apply k31; clear k31; refine kp [2, 3, 4, 6, 7, 8, 9, 10, 12, 34, 35, 36, 50, 51, 52, 53] ?_
   have hnr := ht.nr k j (by omega) (by omega)
   refine ak hP hN rfl ?_
   iterate 8 (refine aj rfl fun _ k0 => ?_; simp only [zO, zT, acs, reduceCtorEq, aa, V, ad, ag, af, ae, Mly.av, az, List.length_take]; (repeat refine an ?_); (try refine .inl ?_); apply k0; clear k0; simp only [zP, V])
   refine am ?_
   apply k30; clear k30; refine kp [2, 3, 4, 6, 7, 8, 9, 10, 12, 34, 35, 36, 50, 51, 52, 53] ?_
   refine ak hP hN rfl ?_
   iterate 2 (refine aj rfl fun _ k0 => ?_; simp only [zO, zT, acs, reduceCtorEq, aa, V, ad, ag, af, ae, Mly.av]; (repeat refine an ?_); (try refine .inl ?_); apply k0; clear k0; simp only [zP, V])
   refine am ?_
   refine ⟨_, _, ?_, aw [2, 3, 4, 6, 7, 8, 9, 10, 34, 35, 36, 50, 51, 52], j + 1, v2 + 1, by omega, rfl, ?_⟩
   · omega
   · rw [nV m.trim.f (by omega)]; rfl
  (try simp only [zB, reduceCtorEq] at hc29)
  refine aX ?_
  apply k24; clear k24; refine kp [2, 3, 4, 6, 7, 8, 9, 10, 34, 35, 36, 50, 51, 52, 53] ?_
  refine ai fun _ k32 => ?_
  refine cO 6 rfl ?_; simp only [aF, bl, zS, aa, and_self, and_true, true_and, and_false, false_and, if_true, if_false, eq_self, reduceCtorEq, Nat.one_ne_zero, Nat.zero_ne_one]
  have hrle := yA m.trim.eqc k
  refine ak hP hN rfl ?_
  iterate 7 (refine aj rfl fun _ k0 => ?_; simp only [zO, zT, acs, reduceCtorEq, aa, V, ad, ag, af, ae, Mly.av]; (repeat refine an ?_); (try refine .inl ?_); apply k0; clear k0; simp only [zP, V])
  refine am ?_
  apply k32; clear k32; refine kp [2, 3, 4, 6, 7, 8, 9, 10, 34, 35, 36, 50, 51, 52, 53] ?_
  refine km ?_; simp only [aM, List.append_assoc, ba]
  refine bp hP hN Try.mixed rfl ?_
  iterate 2 (refine aj rfl fun _ k0 => ?_; simp only [zO, zT, acs, reduceCtorEq, aa, V, ad, ag, af, ae, Mly.av]; (repeat refine an ?_); (try refine .inl ?_); apply k0; clear k0; simp only [zP, V])
  (refine aj rfl fun _ k0 => ?_; simp only [zO, zT, acs, reduceCtorEq, aa, V, ad, ag, af, ae, Mly.av]; (repeat refine an ?_); refine Or.inr (Or.inr (Or.inl ⟨7, by exact rfl, ?_⟩)); refine k0 _ ?_; clear k0; simp only [zP, V])
  iterate 5 (refine aj rfl fun _ k0 => ?_; simp only [zO, zT, acs, reduceCtorEq, aa, V, ad, ag, af, ae, Mly.av]; (repeat refine an ?_); (try refine .inl ?_); apply k0; clear k0; simp only [zP, V])
  (refine aj rfl fun _ k0 => ?_; simp only [zO, zT, acs, reduceCtorEq, aa, V, ad, ag, af, ae, Mly.av]; (repeat refine an ?_); refine Or.inr (k0 _ ?_); clear k0; simp only [zP, V])
  iterate 4 (refine aj rfl fun _ k0 => ?_; simp only [zO, zT, acs, reduceCtorEq, aa, V, ad, ag, af, ae, Mly.av]; (repeat refine an ?_); (try refine .inl ?_); apply k0; clear k0; simp only [zP, V])
  refine am ?_
  refine ⟨by kernel_rfl, ?_⟩
  apply k18; clear k18; refine kp [2, 3, 4, 6, 7, 8, 9, 10, 34, 35, 36, 50, 51, 52, 53] ?_
  first | (refine cM (n := 7) (L1 := [_, _, _, _, _, _, _]) rfl rfl (by rw [hB]; decide) rfl rfl ?_; refine cM (n := 6) (L1 := [_, _, _, _, _, _]) rfl rfl (by rw [hB]; decide) rfl rfl ?_) | skip
  refine ak hP hN rfl ?_
  iterate 2 (refine aj rfl fun _ k0 => ?_; simp only [zO, zT, acs, reduceCtorEq, aa, V, ad, ag, af, ae, Mly.av]; (repeat refine an ?_); (try refine .inl ?_); apply k0; clear k0; simp only [zP, V])
  refine am ?_
  first
  | (have hnw : ¬ m.trim.eqc.getD k 0 = cN m.trim.eqc k := by omega
     refine ⟨_, _, ?_, aw [2, 3, 4, 6, 7, 34, 35, 36], k + 1, v, by omega, rfl, ?_⟩
     · omega
     · rw [(o9 hnw).1, (o9 hnw).2]; rfl)
  | (have hnw : m.trim.eqc.getD k 0 = cN m.trim.eqc k := by omega
     have hjr : j = (m.trim.nx.getD k []).length := by omega
     have htk : ((m.trim.nx.getD k []).take j).map m.trim.f = (m.trim.nx.getD k []).map m.trim.f := by rw [hjr, aJ]
     refine ⟨_, _, ?_, aw [2, 3, 4, 6, 7, 34, 35, 36], k + 1, v + 1, by omega, rfl, ?_⟩
     · omega
     · rw [(o4 hnw).1, (o4 hnw).2, ← htk]; rfl)
 (try simp only [zB, reduceCtorEq] at hc17)
 refine aX ?_
 apply k12; clear k12; refine kp [2, 3, 4, 6, 7, 34, 35, 36, 37] ?_
 refine ai fun _ k33 => ?_
 refine ak hP hN rfl ?_
 iterate 3 (refine aj rfl fun _ k0 => ?_; simp only [zO, zT, acs, reduceCtorEq, aa, V, ad, ag, af, ae, Mly.av]; (repeat refine an ?_); (try refine .inl ?_); apply k0; clear k0; simp only [zP, V])
 refine am ?_
 apply k33; clear k33; refine kp [2, 3, 4, 6, 7, 34, 35, 36, 37] ?_
 refine aB ?_
 refine ⟨nr, _, rfl, ?_⟩; simp only [zF, zP, aa, V, Mly.av]
 first
 | (rw [mH ‹¬aO m = 0›]; exact cv ⟨dq ⟨.refl _, .refl _, bz rfl, bz rfl, trivial⟩, aZ (.refl _), trivial⟩)
 | (have hk3 : k = m.trim.nx.length := by omega
    subst hk3
    rw [tI hv, hv]
    exact VLE.of_eq (by simp [fzC]; rfl))
theorem xC (m : Mly) : bZ Try.prog 50 [m.av] (.one (.bool (mnB m))) := by
 refine aU Try.func50 rfl (by kernel_rfl) (Nat.le_of_ble_eq_true rfl) rfl fun C hP hN hB => ?_
 replace hN : C.N = 33 := hN
 simp only [bg, V]
 refine ai fun _ k1 => ?_
 refine ak hP hN rfl ?_
 iterate 2 (refine aj rfl fun _ k0 => ?_; simp only [zO, zT, acs, reduceCtorEq, aa, V, ad, ag, af, ae, Mly.av]; (repeat refine an ?_); (try refine .inl ?_); apply k0; clear k0; simp only [zP, V])
 refine am ?_
 apply k1; clear k1; refine kp [0, 1, 2] ?_
 refine ai fun _ k2 => ?_
 refine ai fun _ k3 => ?_
 refine bp hP hN Try.mixed rfl ?_
 (refine aj rfl fun _ k0 => ?_; simp only [zO, zT, acs, reduceCtorEq, aa, V, ad, ag, af, ae, Mly.av]; (repeat refine an ?_); (try refine .inl ?_); apply k0; clear k0; simp only [zP, V])
 refine aj rfl fun _ k0 => ?_
 refine aN (h := aA (jy m)) rfl rfl (by first | exact rfl | (simp only [ev, zP, aa, V]; exact rfl)) (by simp only [zV, acs, reduceCtorEq, aa, V, ad, ag, af, ae, Mly.av]) ?_
 apply k0; clear k0; simp only [zP, V]
 iterate 2 (refine aj rfl fun _ k0 => ?_; simp only [zO, zT, acs, reduceCtorEq, aa, V, ad, ag, af, ae, Mly.av]; (repeat refine an ?_); (try refine .inl ?_); apply k0; clear k0; simp only [zP, V])
 refine' aP (want := false) 7 rfl (m := 8) (by simp only [zP, aa, V]; exact rfl) (by kernel_rfl) rfl rfl rfl rfl rfl (fun hg4 => ?a4) ?b4 ?c4
 case a4 =>
  have hq4 := hg4; (try simp only [zB, reduceCtorEq] at hg4); simp only [zE]
  (refine bf rfl fun _ k0 => ?_; simp only [zO, zT, acs, reduceCtorEq, aa, V, ad, ag, af, ae, Mly.av]; (repeat refine an ?_); (try refine .inl ?_); apply k0; clear k0; simp only [zP, V])
  refine bf rfl fun _ k0 => ?_
  refine aN (h := aA (uc m)) rfl rfl (by first | exact rfl | (simp only [ev, zP, aa, V]; exact rfl)) (by simp only [zV, acs, reduceCtorEq, aa, V, ad, ag, af, ae, Mly.av]) ?_
  apply k0; clear k0; simp only [zP, V]
  iterate 5 (refine bf rfl fun _ k0 => ?_; simp only [zO, zT, acs, reduceCtorEq, aa, V, ad, ag, af, ae, Mly.av]; (repeat refine an ?_); (try refine .inl ?_); apply k0; clear k0; simp only [zP, V])
  (refine aj rfl fun _ k0 => ?_; simp only [zO, zT, acs, reduceCtorEq, aa, V, ad, ag, af, ae, Mly.av]; (repeat refine an ?_); (try refine .inl ?_); apply k0; clear k0; simp only [zP, V])
  refine am ?_
  refine ⟨by simp only [zP, aa, V]; exact rfl, rfl, ?_, rfl⟩; (repeat refine aQ rfl ?_); exact bn (by exact rfl) hq4
 case b4 => exact cq
 simp only [b7, aT]
 refine am ?_
 refine ⟨by kernel_rfl, ?_⟩
 apply k3; clear k3; refine kp [0, 1, 2, 16] ?_
 refine cd (fun hc5 => ?_) (fun hc5 => ?_)
 ·(try simp only [zB, reduceCtorEq] at hc5)
  have hno := AN (m := m) (by have h9 := hc5; omega)
  refine ai fun _ k6 => ?_
  refine ak hP hN rfl ?_
  (refine aj rfl fun _ k0 => ?_; simp only [zO, zT, acs, reduceCtorEq, aa, V, ad, ag, af, ae, Mly.av]; (repeat refine an ?_); (try refine .inl ?_); apply k0; clear k0; simp only [zP, V])
  refine am ?_
  apply k6; clear k6; refine kp [0, 1, 2, 16] ?_
  refine aB ?_
  refine ⟨nr, _, rfl, ?_⟩; simp only [zF, zP, aa, V, Mly.av]
  refine VLE.of_eq ?_
  first | (rw [hno]; done) | (rw [hno]; rfl) | (rw [hnb, hyes.1, he9]; rfl)
 (try simp only [zB, reduceCtorEq] at hc5)
 have hyes : aO m = 0 ∧ m.reach.length = m.nx.length := by have h9 := hc5; omega
 have hnb := AP hyes.1 hyes.2
 have he9 : decide ((m.mres.nx.length : Int) = (m.nx.length : Int)) = decide (m.mres.nx.length = m.nx.length) := by rw [decide_eq_decide]; omega
 refine ax ?_
 apply k2; clear k2; refine kp [0, 1, 2, 16] ?_
 refine ai fun _ k7 => ?_
 refine ak hP hN rfl ?_
 (refine aj rfl fun _ k0 => ?_; simp only [zO, zT, acs, reduceCtorEq, aa, V, ad, ag, af, ae, Mly.av]; (repeat refine an ?_); (try refine .inl ?_); apply k0; clear k0; simp only [zP, V])
 refine aj rfl fun _ k0 => ?_
 refine aN (h := aA (B4 m)) rfl rfl (by first | exact rfl | (simp only [ev, zP, aa, V]; exact rfl)) (by simp only [zV, acs, reduceCtorEq, aa, V, ad, ag, af, ae, Mly.av]) ?_
 apply k0; clear k0; simp only [zP, V]
 iterate 6 (refine aj rfl fun _ k0 => ?_; simp only [zO, zT, acs, reduceCtorEq, aa, V, ad, ag, af, ae, Mly.av]; (repeat refine an ?_); (try refine .inl ?_); apply k0; clear k0; simp only [zP, V])
 refine am ?_
 apply k7; clear k7; refine kp [0, 1, 2, 3, 4, 16] ?_
 refine ai fun _ k8 => ?_
 refine ak hP hN rfl ?_
 iterate 3 (refine aj rfl fun _ k0 => ?_; simp only [zO, zT, acs, reduceCtorEq, aa, V, ad, ag, af, ae, Mly.av]; (repeat refine an ?_); (try refine .inl ?_); apply k0; clear k0; simp only [zP, V])
 refine' aP (want := true) 7 rfl (m := 24) (by simp only [zP, aa, V]; exact rfl) (by kernel_rfl) rfl rfl rfl rfl rfl (fun hg9 => ?a9) ?b9 ?c9
 case a9 =>
  have hq9 := hg9; (try simp only [zB, reduceCtorEq] at hg9); simp only [zE]
  iterate 7 (refine bf rfl fun _ k0 => ?_; simp only [zO, zT, acs, reduceCtorEq, aa, V, ad, ag, af, ae, Mly.av]; (repeat refine an ?_); (try refine .inl ?_); apply k0; clear k0; simp only [zP, V])
  (refine aj rfl fun _ k0 => ?_; simp only [zO, zT, acs, reduceCtorEq, aa, V, ad, ag, af, ae, Mly.av]; (repeat refine an ?_); (try refine .inl ?_); apply k0; clear k0; simp only [zP, V])
  refine am ?_
  refine ⟨by simp only [zP, aa, V]; exact rfl, rfl, ?_, rfl⟩; (repeat refine aQ rfl ?_); exact bn (by exact rfl) hq9
 case b9 => exact cq
 simp only [b7, aT]
 (refine aj rfl fun _ k0 => ?_; simp only [zO, zT, acs, reduceCtorEq, aa, V, ad, ag, af, ae, Mly.av]; (repeat refine an ?_); (try refine .inl ?_); apply k0; clear k0; simp only [zP, V])
 refine am ?_
 apply k8; clear k8; refine kp [0, 1, 2, 3, 4, 16] ?_
 refine aB ?_
 refine ⟨nr, _, rfl, ?_⟩; simp only [zF, zP, aa, V, Mly.av]
 refine VLE.of_eq ?_
 first | (rw [hno]; done) | (rw [hno]; rfl) | (rw [hnb, hyes.1, he9]; rfl)
theorem qp (m : Mly) : bZ Try.prog 32 [m.av] (.one (.int .i64 (dE m))) := by
 refine aU Try.func32 rfl (by kernel_rfl) (Nat.le_of_ble_eq_true rfl) rfl fun C hP hN hB => ?_
 replace hN : C.N = 12 := hN
 simp only [bg, V]
 refine ai fun _ k1 => ?_
 refine ak hP hN rfl ?_
 iterate 2 (refine aj rfl fun _ k0 => ?_; simp only [zO, zT, acs, reduceCtorEq, aa, V, ad, ag, af, ae, Mly.av]; (repeat refine an ?_); (try refine .inl ?_); apply k0; clear k0; simp only [zP, V])
 refine am ?_
 apply k1; clear k1; refine kp [0, 1, 2] ?_
 refine ai fun _ k2 => ?_
 refine ai fun _ k3 => ?_
 refine ak hP hN rfl ?_
 (refine aj rfl fun _ k0 => ?_; simp only [zO, zT, acs, reduceCtorEq, aa, V, ad, ag, af, ae, Mly.av]; (repeat refine an ?_); (try refine .inl ?_); apply k0; clear k0; simp only [zP, V])
 refine aj rfl fun _ k0 => ?_
 refine aN (h := aA (jy m)) rfl rfl (by first | exact rfl | (simp only [ev, zP, aa, V]; exact rfl)) (by simp only [zV, acs, reduceCtorEq, aa, V, ad, ag, af, ae, Mly.av]) ?_
 apply k0; clear k0; simp only [zP, V]
 (refine aj rfl fun _ k0 => ?_; simp only [zO, zT, acs, reduceCtorEq, aa, V, ad, ag, af, ae, Mly.av]; (repeat refine an ?_); (try refine .inl ?_); apply k0; clear k0; simp only [zP, V])
 refine am ?_
 apply k3; clear k3; refine kp [0, 1, 2, 3] ?_
 refine ai fun _ k4 => ?_
 refine ak hP hN rfl ?_
 iterate 2 (refine aj rfl fun _ k0 => ?_; simp only [zO, zT, acs, reduceCtorEq, aa, V, ad, ag, af, ae, Mly.av]; (repeat refine an ?_); (try refine .inl ?_); apply k0; clear k0; simp only [zP, V])
 refine am ?_
 apply k4; clear k4; refine kp [0, 1, 2, 3, 7] ?_
 refine cd (fun hc5 => ?_) (fun hc5 => ?_)
 ·(try simp only [zB, reduceCtorEq] at hc5)
  refine ai fun _ k6 => ?_
  refine ak hP hN rfl ?_
  iterate 2 (refine aj rfl fun _ k0 => ?_; simp only [zO, zT, acs, reduceCtorEq, aa, V, ad, ag, af, ae, Mly.av]; (repeat refine an ?_); (try refine .inl ?_); apply k0; clear k0; simp only [zP, V])
  refine am ?_
  apply k6; clear k6; refine kp [0, 1, 2, 3, 7] ?_
  refine aB ?_
  refine ⟨nr, _, rfl, ?_⟩; simp only [zF, zP, aa, V, Mly.av]
  refine VLE.of_eq ?_
  refine congrArg (fun n => AV.one (AC.int IntKind.i64 n)) ?_
  unfold dE
  symm
  first
  | (rw [if_pos (by omega)]; done)
  | (rw [if_neg (by omega), if_neg (by simp_all)]; done)
  | (rw [if_neg (by omega), if_pos (by simp_all)]; done)
 (try simp only [zB, reduceCtorEq] at hc5)
 refine ax ?_
 apply k2; clear k2; refine kp [0, 1, 2, 3, 7] ?_
 refine ai fun _ k7 => ?_
 refine ai fun _ k8 => ?_
 refine ak hP hN rfl ?_
 (refine aj rfl fun _ k0 => ?_; simp only [zO, zT, acs, reduceCtorEq, aa, V, ad, ag, af, ae, Mly.av]; (repeat refine an ?_); (try refine .inl ?_); apply k0; clear k0; simp only [zP, V])
 refine aj rfl fun _ k0 => ?_
 refine aN (h := aA (xC m)) rfl rfl (by first | exact rfl | (simp only [ev, zP, aa, V]; exact rfl)) (by simp only [zV, acs, reduceCtorEq, aa, V, ad, ag, af, ae, Mly.av]) ?_
 apply k0; clear k0; simp only [zP, V]
 (refine aj rfl fun _ k0 => ?_; simp only [zO, zT, acs, reduceCtorEq, aa, V, ad, ag, af, ae, Mly.av]; (repeat refine an ?_); (try refine .inl ?_); apply k0; clear k0; simp only [zP, V])
 refine am ?_
 apply k8; clear k8; refine kp [0, 1, 2, 3, 7, 11] ?_
 refine cd (fun hc9 => ?_) (fun hc9 => ?_)
 ·(try simp only [zB, reduceCtorEq] at hc9)
  refine ai fun _ k10 => ?_
  refine ak hP hN rfl ?_
  (refine aj rfl fun _ k0 => ?_; simp only [zO, zT, acs, reduceCtorEq, aa, V, ad, ag, af, ae, Mly.av]; (repeat refine an ?_); (try refine .inl ?_); apply k0; clear k0; simp only [zP, V])
  refine am ?_
  apply k10; clear k10; refine kp [0, 1, 2, 3, 7, 11] ?_
  refine aB ?_
  refine ⟨nr, _, rfl, ?_⟩; simp only [zF, zP, aa, V, Mly.av]
  refine VLE.of_eq ?_
  refine congrArg (fun n => AV.one (AC.int IntKind.i64 n)) ?_
  unfold dE
  symm
  first
  | (rw [if_pos (by omega)]; done)
  | (rw [if_neg (by omega), if_neg (by simp_all)]; done)
  | (rw [if_neg (by omega), if_pos (by simp_all)]; done)
 (try simp only [zB, reduceCtorEq] at hc9)
 refine ax ?_
 apply k7; clear k7; refine kp [0, 1, 2, 3, 7, 11] ?_
 refine ai fun _ k11 => ?_
 refine ak hP hN rfl ?_
 (refine aj rfl fun _ k0 => ?_; simp only [zO, zT, acs, reduceCtorEq, aa, V, ad, ag, af, ae, Mly.av]; (repeat refine an ?_); (try refine .inl ?_); apply k0; clear k0; simp only [zP, V])
 refine am ?_
 apply k11; clear k11; refine kp [0, 1, 2, 3, 7, 11] ?_
 refine aB ?_
 refine ⟨nr, _, rfl, ?_⟩; simp only [zF, zP, aa, V, Mly.av]
 refine VLE.of_eq ?_
 refine congrArg (fun n => AV.one (AC.int IntKind.i64 n)) ?_
 unfold dE
 symm
 first
 | (rw [if_pos (by omega)]; done)
 | (rw [if_neg (by omega), if_neg (by simp_all)]; done)
 | (rw [if_neg (by omega), if_pos (by simp_all)]; done)
section
open Go.RowKit Go.Shelf
attribute [local go_sem] Oper.semAt_some
structure NV12 where
  sa : Option Addr
  sn : Nat
  sc : Nat
  i : Int
  ka : Option Addr
  kn : Nat
  kc : Nat
def NV12.v (x : NV12) : Value := .agg #[.slice x.sa x.sn x.sc, .int .i64 x.i, .slice x.ka x.kn x.kc]
def fu (f : Nat → NV12) (k : Nat) : List NV12 := ((List.range k).map f).filter fun x => decide (x.i = -1)
theorem zD {f : Nat → NV12} {k : Nat} (h : (f k).i = -1) : fu f (k + 1) = fu f k ++ [f k] := by
  unfold fu; rw [List.range_succ, List.map_append, List.filter_append]; simp [h]
theorem Ar {f : Nat → NV12} {k : Nat} (h : ¬ (f k).i = -1) : fu f (k + 1) = fu f k := by
  unfold fu; rw [List.range_succ, List.map_append, List.filter_append]; simp [h]
theorem xK {f : Nat → NV12} {k : Nat} : (fu f k).length ≤ k := by
  unfold fu; exact Nat.le_trans (List.length_filter_le _ _) (by simp)
set_option maxHeartbeats 2000000 in
theorem zj (F : Fence) (n : Nat) (h61 : F.fn 61) (hro : F.round = none) (hn : 1 ≤ n) (l Bs n₀ b off len cap : Nat) (f : Nat → NV12) (hln : len ≤ 1000000000) (hb : b < n₀) (J Jx : List NV12 → World → Prop)
    (hY : ∀ pre x W, J pre W → pre.length < len → YieldAt F (n - 1) Try.prog l #[NV12.v x] W fun e W' =>
      (e = .returned (.bool true) ∧ J (pre ++ [x]) W' ∧ Below n₀ W W') ∨ (e = .returned (.bool false) ∧ Jx (pre ++ [x]) W'))
    (W : World) (hn₀ : n₀ ≤ W.heap.size) (hJ : AbidesFrom W.heap.size J)
    (hBs : W.cell? ⟨Bs, 0, none⟩ = some (.slice (some ⟨b, off, none⟩) len cap)) (hc0 : ∀ j, j < len → W.cell? ⟨b, off + j * 3, none⟩ = some (.slice (f j).sa (f j).sn (f j).sc)) (hc1 : ∀ j, j < len → W.cell? ⟨b, off + j * 3 + 1, none⟩ = some (.int .i64 (f j).i)) (hc2 : ∀ j, j < len → W.cell? ⟨b, off + j * 3 + 2, none⟩ = some (.slice (f j).ka (f j).kn (f j).kc)) (h0 : J [] W) :
    CallsIn F n Try.prog 61 #[.func (.yield l) #[] #[], .pointer (some ⟨Bs, 0, none⟩)] W fun e W' => (∃ v, e = .returned v) ∧
      ((∃ ys, ys = fu f len ∧ J ys W') ∨ (∃ pre, (∃ k, k ≤ len ∧ pre = fu f k) ∧ Jx pre W')) := by
  refine callsIn_of_wp Try.func61 rfl h61 ?_ hro
  simp only [Try.ntmps61, List.size_toArray, au, aE, V, ae, Array.replicate_succ, Array.replicate_zero, List.push_toArray, List.append_toArray, ba, aM]
  gi_wp2
  gi_loopw [8] (fun i wr => ∃ k : Nat, k ≤ len ∧ i = .int .i64 k ∧ J (fu f k) wr ∧ Below n₀ W wr)
    (fun i _ => len - (intOf i).toNat)
  case atStart => exact ⟨0, Nat.zero_le _, rfl, h0, Below.refl _ _⟩
  case round =>
    obtain ⟨k, hk, rfl, hJs, hnx⟩ := hrel
    by_cases hlt : k < len
    · have q0 := (hnx.cell (p := ⟨b, off + k * 3, none⟩) hb).trans (hc0 k hlt)
      have q1 := (hnx.cell (p := ⟨b, off + k * 3 + 1, none⟩) hb).trans (hc1 k hlt)
      have q2 := (hnx.cell (p := ⟨b, off + k * 3 + 2, none⟩) hb).trans (hc2 k hlt)
      rcases hf : f k with ⟨sa, sn, sc, i, ka, kn, kc⟩
      rw [hf] at q0 q1 q2
      dsimp only at q0 q1 q2
      by_cases hi : i = -1
      · subst hi
        have hJ1 : J (fu f k) (wr.alloc (.cells #[.slice sa sn sc, .int .i64 (-1), .slice ka kn kc] 52)) := hJ _ wr _ none hJs (World.grownBy_alloc wr _ none) (fun r e => by cases e)
        have hll := xK (f := f) (k := k)
        obtain ⟨fn, tmps, assign, body, hy, hR⟩ := hY _ (f k) _ hJ1 (by omega)
        rw [hf] at hy hR
        dsimp only [NV12.v] at hy
        gi_wp2
        refine hR.mono ?_
        have hlv : fu f (k + 1) = fu f k ++ [⟨sa, sn, sc, -1, ka, kn, kc⟩] := by rw [zD (by rw [hf]), hf]
        rintro e W3 (⟨rfl, hJ3, hk3⟩ | ⟨rfl, hJx3⟩)
        · gi_wp2
          go_roundw
          case rel => exact ⟨k + 1, by omega, by simp, by rw [hlv]; exact hJ3, hnx.trans (((Below.refl n₀ wr).alloc (Nat.le_trans hn₀ hnx.size) _).trans hk3)⟩
          case measure => simp [intOf]; omega
        · gi_wp2
          refine bodyPost_ret (results_none rfl _ _ _) rfl ?_
          exact ⟨⟨_, rfl⟩, .inr ⟨_, ⟨k + 1, by omega, hlv.symm⟩, hJx3⟩⟩
      · have hi2 : (i == -1) = false := by simp [hi]
        gi_wp2
        refine ⟨fun _ h => (by cases h), ?_⟩
        gi_wp2
        go_roundw
        case rel => exact ⟨k + 1, by omega, by simp, by rw [Ar (by rw [hf]; exact hi)]; exact hJ _ wr _ none hJs (World.grownBy_alloc wr _ none) (fun r e => by cases e), hnx.trans ((Below.refl n₀ wr).alloc (Nat.le_trans hn₀ hnx.size) _)⟩
        case measure => simp [intOf]; omega
    · obtain rfl : k = len := by omega
      gi_wp2
      go_end0
      exact ⟨⟨_, rfl⟩, .inl ⟨_, rfl, hJs⟩⟩

set_option maxHeartbeats 1000000 in
theorem x9 (F : Fence) (n : Nat) (h61 : F.fn 61) (hro : F.round = none) (l Bs : Nat) (A : Option Addr) (cap : Nat) (J : List NV12 → World → Prop) (W : World) (hBs : W.cell? ⟨Bs, 0, none⟩ = some (.slice A 0 cap)) (h0 : J [] W) :
    CallsIn F n Try.prog 61 #[.func (.yield l) #[] #[], .pointer (some ⟨Bs, 0, none⟩)] W fun e W' => (∃ v, e = .returned v) ∧ J [] W' := by
  refine callsIn_of_wp Try.func61 rfl h61 ?_ hro
  simp only [Try.ntmps61, List.size_toArray, au, aE, V, ae, Array.replicate_succ, Array.replicate_zero, List.push_toArray, List.append_toArray, ba, aM]
  gi_wp2
  gi_loopw [8] (fun i wr => i = .int .i64 0 ∧ J [] wr) (fun _ _ => 0)
  case atStart => exact ⟨rfl, h0⟩
  case round =>
    obtain ⟨rfl, hJs⟩ := hrel
    gi_wp2
    go_end0
    exact ⟨⟨_, rfl⟩, hJs⟩

set_option maxHeartbeats 1000000 in
theorem yJ (F : Fence) (n : Nat) (h39 : F.fn 39) (hro : F.round = none) (A : Option Addr) (len cap : Nat) (w : World) :
    CallsIn F n Try.prog 39 #[.agg #[.slice A len cap]] w fun e w' => e = .returned (.func (.func 61) #[] #[.pointer (some ⟨w.heap.size, 0, none⟩)]) ∧ w' = w.alloc (.cells #[.slice A len cap] 29) := by
  refine callsIn_of_wp Try.func39 rfl h39 ?_ hro
  simp only [Try.ntmps39, List.size_toArray, au, aE, V, ae, Array.replicate_succ, Array.replicate_zero, List.push_toArray, List.append_toArray, ba, aM]
  gi_wp2
  go_ret
  exact ⟨rfl, rfl⟩

def pq (n₀ : Nat) (W : World) (A : Option Addr) (len : Nat) (f : Nat → NV12) : Prop :=
  0 < len → ∃ b off, A = some ⟨b, off, none⟩ ∧ b < n₀ ∧ (∀ j, j < len → W.cell? ⟨b, off + j * 3, none⟩ = some (.slice (f j).sa (f j).sn (f j).sc)) ∧ (∀ j, j < len → W.cell? ⟨b, off + j * 3 + 1, none⟩ = some (.int .i64 (f j).i)) ∧
    (∀ j, j < len → W.cell? ⟨b, off + j * 3 + 2, none⟩ = some (.slice (f j).ka (f j).kn (f j).kc))

theorem vA (F : Fence) (n : Nat) (h61 : F.fn 61) (hro : F.round = none) (hn : 1 ≤ n) (Bs n₀ : Nat) (A : Option Addr) (len cap : Nat) (f : Nat → NV12) (hln : len ≤ 1000000000) (w : World) (hBs : Bs < w.heap.size) (hn₀ : n₀ ≤ w.heap.size)
    (hc : w.cell? ⟨Bs, 0, none⟩ = some (.slice A len cap)) (hI : pq n₀ w A len f) :
    SeqStopsK F n Try.prog 61 #[.pointer (some ⟨Bs, 0, none⟩)] (fun x : NV12 => #[NV12.v x]) (Below n₀) (fun ys => ys = fu f len) (fun pre => ∃ k, k ≤ len ∧ pre = fu f k) len w := fun l J Jx W hW hJ _ hY h0 => by
  have hc' := (hW.cell (p := ⟨Bs, 0, none⟩) hBs).trans hc
  rcases Nat.eq_zero_or_pos len with e | e
  · subst e
    exact (x9 F n h61 hro l Bs A cap J W hc' h0).mono fun e W' ⟨he, hj⟩ => ⟨he, .inl ⟨_, rfl, hj⟩⟩
  · obtain ⟨b, off, rfl, hb, c0, c1, c2⟩ := hI e
    have hbw : b < w.heap.size := by omega
    exact zj F n h61 hro hn l Bs n₀ b off len cap f hln hb J Jx hY W (Nat.le_trans hn₀ hW.size) hJ hc'
      (fun j hj => (hW.cell (p := ⟨b, off + j * 3, none⟩) hbw).trans (c0 j hj)) (fun j hj => (hW.cell (p := ⟨b, off + j * 3 + 1, none⟩) hbw).trans (c1 j hj)) (fun j hj => (hW.cell (p := ⟨b, off + j * 3 + 2, none⟩) hbw).trans (c2 j hj)) h0

theorem sR {n₀ : Nat} {W W' : World} (h : Below n₀ W W') {A : Option Addr} {len : Nat} {f : Nat → NV12} (hd : pq n₀ W A len f) : pq n₀ W' A len f := fun e => by
  obtain ⟨b, off, ea, hb, c0, c1, c2⟩ := hd e
  exact ⟨b, off, ea, hb, fun j hj => (h.cell (p := ⟨b, off + j * 3, none⟩) hb).trans (c0 j hj), fun j hj => (h.cell (p := ⟨b, off + j * 3 + 1, none⟩) hb).trans (c1 j hj), fun j hj => (h.cell (p := ⟨b, off + j * 3 + 2, none⟩) hb).trans (c2 j hj)⟩
theorem xh {f : Nat → NV12} {k n : Nat} (h : k ≤ n) {x : NV12} (hx : x ∈ fu f k) : x ∈ fu f n := by
  unfold fu at hx ⊢
  obtain ⟨h1, h2⟩ := List.mem_filter.1 hx
  obtain ⟨j, hj, e⟩ := List.mem_map.1 h1
  have := List.mem_range.1 hj
  exact List.mem_filter.2 ⟨List.mem_map.2 ⟨j, List.mem_range.2 (by omega), e⟩, h2⟩

def yK (W : World) (B : Nat) (x : NV12) : Prop := W.heap[B]? = some (.cells #[.slice x.sa x.sn x.sc, .int .i64 x.i, .slice x.ka x.kn x.kc] 52 (0, 0))
theorem vo {β : Type} (B : Nat) (f : β → NV12) : Own (fun s W => yK W B (f s)) := fun s X Y row hs hg hrow =>
  (hg.block B (Array.getElem?_eq_some_iff.1 hs).1 (fun e' => by obtain ⟨o, ho, hc⟩ := hrow B e'.symm; rw [show X.heap[B]? = _ from hs] at ho; cases ho; cases hc)).trans hs

set_option maxHeartbeats 4000000 in
theorem xV (F : Fence) (n : Nat) (h18 : F.fn 18) (h39 : F.fn 39) (h61 : F.fn 61) (hro : F.round = none) (hn : 6 ≤ n) (A : Option Addr) (len cap : Nat) (f : Nat → NV12) (hln : len ≤ 1000000000) (w : World) (hI : pq w.heap.size w A len f) :
    CallsIn F n Try.prog 18 #[.agg #[.slice A len cap]] w fun e W' => (∃ r, e = .returned (.bool r) ∧ (r = true ↔ (∀ x ∈ fu f len, x.sn = 1) ∧ 0 < len)) ∧ Below w.heap.size w W' := by
  have h1 : 1 ≤ n := by omega
  refine callsIn_of_wp_marks Try.func18 rfl h18 ?_ hro
  simp only [Try.ntmps18, List.size_toArray, au, aE, V, ae, Array.replicate_succ, Array.replicate_zero, List.push_toArray, List.append_toArray, ba, aM]
  gi_wp2_with (gi_at_call 39; refine (yJ F (n - 1) h39 hro _ _ _ _).mono ?_; rintro e w' ⟨rfl, rfl⟩)
  have bT := ((Boxed.new w 29 (.slice A len cap)).alloc (.cells #[.bool false] 4)).alloc (.cells #[.slice A len cap] 29)
  have bR := (Boxed.new (w.alloc (.cells #[.slice A len cap] 29)) 4 (.bool false)).alloc (.cells #[.slice A len cap] 29)
  have bA := Boxed.new ((w.alloc (.cells #[.slice A len cap] 29)).alloc (.cells #[.bool false] 4)) 29 (.slice A len cap)
  simp only [World.size_alloc] at bR bA
  have hB0 : Below w.heap.size w (((w.alloc (.cells #[.slice A len cap] 29)).alloc (.cells #[.bool false] 4)).alloc (.cells #[.slice A len cap] 29)) := (((Below.refl _ w).alloc (Nat.le_refl _) _).alloc (by simp) _).alloc (by simp; omega) _
  have hsz : (((w.alloc (.cells #[.slice A len cap] 29)).alloc (.cells #[.bool false] 4)).alloc (.cells #[.slice A len cap] 29)).heap.size = w.heap.size + 3 := by simp
  obtain ⟨W0, hW0⟩ : ∃ W0, (((w.alloc (.cells #[.slice A len cap] 29)).alloc (.cells #[.bool false] 4)).alloc (.cells #[.slice A len cap] 29)) = W0 := ⟨_, rfl⟩
  rw [hW0] at bT bR bA hB0 hsz ⊢
  clear hW0
  refine wpIn_rangeFunc_ownH hro h1 (gf := 61) (lb := #[.pointer (some ⟨w.heap.size + 1 + 1, 0, none⟩)]) rfl h61 (enters_of Try.func61 (by kernel_rfl) rfl)
    (vA F (n - 1) h61 hro (by omega) (w.heap.size + 1 + 1) w.heap.size A len cap f hln W0 (by omega) (by omega) bA.cell (sR hB0 hI)) belowK_t (belowK_b (by omega)) (Below.refl _ _) (fun _ => rfl)
    (fun pre W => (Boxed W (w.heap.size + 1) 4 (.bool false) ∧ Boxed W w.heap.size 29 (.slice A len cap)) ∧ (Below w.heap.size w W ∧ ∀ x ∈ pre, x.sn = 1))
    (fun c pre W => (Boxed W (w.heap.size + 1) 4 (.bool false) ∧ Boxed W w.heap.size 29 (.slice A len cap)) ∧ (Below w.heap.size w W ∧ (c = .ret ∧ ∃ x ∈ pre, ¬ x.sn = 1)))
    (OwnFrom.and (OwnFrom.and (Own.from (boxed_own _ _ _) _) (Own.from (boxed_own _ _ _) _)) (OwnFrom.and (ownFrom_below (Nat.le_refl _) (by omega)) (fun _ _ _ _ hs _ _ => hs)))
    (fun c => OwnFrom.and (OwnFrom.and (Own.from (boxed_own _ _ _) _) (Own.from (boxed_own _ _ _) _)) (OwnFrom.and (ownFrom_below (Nat.le_refl _) (by omega)) (fun _ _ _ _ hs _ _ => hs)))
    ⟨⟨bR, bT⟩, hB0, fun x hx => by cases hx⟩
    (fun x a' W => ∃ Bx, w.heap.size + 1 < Bx ∧ yK W Bx x ∧ a' = { tmps := #[.agg #[.slice A len cap], .pointer (some ⟨w.heap.size, 0, none⟩), .pointer (some ⟨w.heap.size + 1, 0, none⟩), .pointer (some ⟨Bx, 0, none⟩), .agg #[.slice A len cap], .func (.func 61) #[] #[.pointer (some ⟨w.heap.size + 1 + 1, 0, none⟩)], x.v, undef, undef, undef, undef, undef, undef, undef, undef], defers := [] })
    (fun x a' _ X Y row hs hg hr => by obtain ⟨Bx, h1, h2, h3⟩ := hs; exact ⟨Bx, h1, vo Bx (fun (_ : Unit) => x) () X Y row h2 hg (fun r e => (hr r e).2), h3⟩)
    ?assign ?body ?done ?stop
  case assign =>
    rintro l pre ⟨sa, sn, sc, i, ka, kn, kc⟩ W K ⟨⟨bS1, bB1⟩, hB1, hp⟩ hK
    dsimp only [NV12.v]
    gi_wp2
    exact hK _ _ ((KeepsOthers.alloc _ _).from _) ((Below.refl _ W).alloc hB1.size _) ⟨⟨bS1.alloc _, bB1.alloc _⟩, hB1.alloc hB1.size _, hp⟩ ⟨W.heap.size, bS1.lt, World.alloc_heap_new W _, rfl⟩
  case body =>
    rintro l pre ⟨sa, sn, sc, i, ka, kn, kc⟩ a' W hl ⟨r, hr⟩ ⟨⟨bS1, bB1⟩, hB1, hp⟩ ⟨Bx, hBx, bX, rfl⟩ hlt
    dsimp only [NV12.v]
    have cS := bS1.cell
    have fS := bS1.frozen
    have cX : W.cell? ⟨Bx, 0, none⟩ = some (.slice sa sn sc) := by simp [World.cell?, show W.heap[Bx]? = _ from bX]
    gi_wp2
    · rename_i hsn
      have hsn : ¬ sn = 1 := fun e => by subst e; simp at hsn
      exact ⟨(KeepsOthers.setCell _ _ _).from _, ⟨bS1.set _, bB1.other (by omega) _⟩, hB1.setCell (p := ⟨w.heap.size + 1, 0, none⟩) (by simp) _, rfl, _, List.mem_append_right _ (List.mem_singleton.2 rfl), hsn⟩
    · rename_i hsn
      have hsn : sn = 1 := by simp at hsn; omega
      refine ⟨KeepsFrom.refl _ _, Below.refl _ _, ⟨bS1, bB1⟩, hB1, fun x hx => ?_⟩
      rcases List.mem_append.1 hx with h | h
      · exact hp x h
      · rw [List.mem_singleton] at h; rw [h]; exact hsn
  case done =>
    rintro D zs W hD rfl ⟨⟨bS1, bB1⟩, hB1, hp⟩ hK
    have cS := bS1.cell
    have fS := bS1.frozen
    have cB := bB1.cell
    gi_wp2
    have k2 : (W.setCell ⟨w.heap.size + 1, 0, none⟩ (.bool (decide (0 < len)))).heap[D]? = some (.deferred (some [])) := (KeepsOthers.setCell W ⟨w.heap.size + 1, 0, none⟩ _).same D _ hK rfl
    have hB2 := hB1.setCell (p := ⟨w.heap.size + 1, 0, none⟩) (by simp) (.bool (decide (0 < len)))
    have cS2 := (bS1.set (.bool (decide (0 < len)))).cell
    have cS3 := cell_kept cS2 (grownBy_putObj' _ D (.deferred none)) (fun r e => by cases e; exact ⟨_, k2, rfl⟩)
    refine ⟨by simp, .inl ⟨_, _, rfl, run_takeDeferred k2, ?_⟩⟩
    refine ⟨.bool (decide (0 < len)), ?_, ⟨decide (0 < len), rfl, ?_⟩, hB2.trans (belowK_b (w := w) (Nat.le_refl _) _ D _ _ (by omega) k2 rfl rfl)⟩
    · simp only [results, show Try.f18.results = #[.cell 2 4] by kernel_rfl]
      simp [loadVar, asAddr, go_sem, cS3]
    · rw [decide_eq_true_eq]; exact ⟨fun h => ⟨hp, h⟩, fun h => h.2⟩
  case stop =>
    rintro D c pre W hD ⟨k, hk, rfl⟩ ⟨⟨bS1, bB1⟩, hB1, rfl, x, hx, hx1⟩ hK
    have cS := bS1.cell
    gi_wp2
    have cS3 := cell_kept cS (grownBy_putObj' _ D (.deferred none)) (fun r e => by cases e; exact ⟨_, hK, rfl⟩)
    refine ⟨by simp, .inl ⟨_, _, rfl, run_takeDeferred hK, ?_⟩⟩
    refine ⟨.bool false, ?_, ⟨false, rfl, ?_⟩, hB1.trans (belowK_b (w := w) (Nat.le_refl _) _ D _ _ (by omega) hK rfl rfl)⟩
    · simp only [results, show Try.f18.results = #[.cell 2 4] by kernel_rfl]
      simp [loadVar, asAddr, go_sem, cS3]
    · refine ⟨fun h => (by cases h), fun h => absurd (h.1 x (xh hk hx)) hx1⟩

theorem x0 {T : List bc} {f : Nat → NV12} (h : ∀ i, i < T.length → (f i).sn = (T.getD i nd0).1.length ∧ (f i).i = (T.getD i nd0).2.1) : ((∀ x ∈ fu f T.length, x.sn = 1) ∧ 0 < T.length) ↔ iS T = true := by
  unfold iS
  rw [Bool.and_eq_true, decide_eq_true_eq, List.all_eq_true]
  refine and_congr_left fun _ => ⟨fun h1 x hx => ?_, fun h1 x hx => ?_⟩
  · obtain ⟨i, hi, rfl⟩ := List.getElem_of_mem hx
    obtain ⟨a, b⟩ := h i hi
    have e : T.getD i nd0 = T[i] := by simp [List.getD, hi]
    rw [e] at a b
    unfold cmL
    by_cases e1 : T[i].2.1 = -1
    · have := h1 (f i) (List.mem_filter.2 ⟨List.mem_map.2 ⟨i, List.mem_range.2 hi, rfl⟩, decide_eq_true (by rw [b]; exact e1)⟩)
      rw [decide_eq_true (show T[i].1.length = 1 by omega)]; simp
    · rw [decide_eq_false e1]; rfl
  · obtain ⟨h2, h3⟩ := List.mem_filter.1 hx
    obtain ⟨i, hi, rfl⟩ := List.mem_map.1 h2
    have hi := List.mem_range.1 hi
    obtain ⟨a, b⟩ := h i hi
    have h4 := h1 (T.getD i nd0) (by rw [List.getD, List.getElem?_eq_getElem hi]; exact List.getElem_mem hi)
    unfold cmL at h4
    rw [decide_eq_true (show (T.getD i nd0).2.1 = -1 by rw [← b]; exact of_decide_eq_true h3)] at h4
    rw [a]
    simpa using h4
theorem vU (T : List bc) (hT : T.length ≤ 1000000) : bZ Try.prog 18 [.agg [.list ndT T]] (.one (.bool (iS T))) := by
  refine ⟨⟨_, Try.func18, by kernel_rfl, by kernel_rfl⟩, fun C L σ w vs hP hI ha => ?_⟩
  match vs, ha with
  | [v], ⟨⟨us, hv, hus⟩, _⟩ =>
  match us, hus with
  | [u], ⟨⟨_, hd⟩, _⟩ =>
  subst hv
  have hd : Dat (avd C L σ) w (.list ndT) T [u] := hd
  simp only [Dat] at hd
  obtain ⟨A, c, e, _, _, hr⟩ := hd
  obtain rfl : u = .slice A T.length c := by simpa using e
  have hx : ∀ i, ∃ x : NV12, i < T.length → (x.sn = (T.getD i nd0).1.length ∧ x.i = (T.getD i nd0).2.1) ∧ ∀ b o, A = some ⟨b, o, none⟩ → w.cell? ⟨b, o + i * 3, none⟩ = some (.slice x.sa x.sn x.sc) ∧ w.cell? ⟨b, o + i * 3 + 1, none⟩ = some (.int .i64 x.i) ∧ w.cell? ⟨b, o + i * 3 + 2, none⟩ = some (.slice x.ka x.kn x.kc) := fun i => by
    by_cases hi : i < T.length
    · obtain ⟨b, o, eA, _, _, hc⟩ := hr (by omega)
      obtain ⟨cs, hl, h1, h2⟩ := hc i hi
      have e2 : (List.getD T i ndT.dflt) = T.getD i nd0 := rfl
      rw [e2] at h2
      rcases hq : T.getD i nd0 with ⟨st, inp, ks, un⟩
      rw [hq] at h2
      simp only [ndT, Dat] at h2
      obtain ⟨c1, c2, rfl, ⟨A1, k1, rfl, _⟩, c3, c4, rfl, rfl, c5, c6, rfl, ⟨A2, k2, rfl, _⟩, rfl⟩ := h2
      refine ⟨⟨A1, st.length, k1, inp, A2, ks.length, k2⟩, fun _ => ⟨⟨rfl, rfl⟩, fun b' o' e' => ?_⟩⟩
      rw [eA] at e'
      cases e'
      exact ⟨h1 0 (by decide), h1 1 (by decide), h1 2 (by decide)⟩
    · exact ⟨⟨none, 0, 0, 0, none, 0, 0⟩, fun h => absurd h hi⟩
  obtain ⟨f, hf⟩ := Classical.axiomOfChoice hx
  have hn : pq w.heap.size w A T.length f := fun h0 => by
    obtain ⟨b, o, eA, _, hlt, _⟩ := hr h0
    exact ⟨b, o, eA, hlt, fun j hj => ((hf j hj).2 b o eA).1, fun j hj => ((hf j hj).2 b o eA).2.1, fun j hj => ((hf j hj).2 b o eA).2.2⟩
  refine (callsIn_wide.1 (xV Fence.wide 6 trivial trivial trivial rfl (by omega) A T.length c f (by omega) w hn)).mono ?_
  rintro e w' ⟨⟨r, h1, h2⟩, h3⟩
  refine ⟨.bool r, h1, ⟨h3.size, h3.os, h3.tape, h3.output, h3.block⟩, rfl, ?_⟩
  have h4 := h2.trans (x0 fun i hi => (hf i hi).1)
  show Value.bool r = .bool (iS T)
  cases r <;> cases hq : iS T <;> simp_all
end
theorem xA  : kF Try.prog 51 [.one .emp] (.int .i64) 3 (([] : List Int)) := by
 refine iX Try.func51 rfl (by kernel_rfl) (Nat.le_of_ble_eq_true rfl) rfl fun C hP hN hB => ?_
 replace hN : C.N = 8 := hN
 simp only [bg, V]
 refine ai fun _ k1 => ?_
 refine ak hP hN rfl ?_
 (refine aj rfl fun _ k0 => ?_; simp only [zO, zT, acs, reduceCtorEq, aa, V, ad, ag, af, ae]; (repeat refine an ?_); (try refine .inl ?_); apply k0; clear k0; simp only [zP, V])
 refine am ?_
 apply k1; clear k1; refine kp [0, 2] ?_
 refine ai fun _ k2 => ?_
 refine ai fun _ k3 => ?_
 refine ak hP hN rfl ?_
 iterate 2 (refine aj rfl fun _ k0 => ?_; simp only [zO, zT, acs, reduceCtorEq, aa, V, ad, ag, af, ae]; (repeat refine an ?_); (try refine .inl ?_); apply k0; clear k0; simp only [zP, V])
 refine am ?_
 apply k3; clear k3; refine kp [0, 2, 4] ?_
 refine cd (fun hc4 => ?_) (fun hc4 => ?_)
 · exfalso; (try simp only [zB, reduceCtorEq] at hc4); all_goals (first | (cases hc4; done) | omega | (simp at hc4; done) | (simp_all; done))
 (try simp only [zB, reduceCtorEq] at hc4)
 refine ax ?_
 apply k2; clear k2; refine kp [0, 2, 4] ?_
 refine ai fun _ k5 => ?_
 refine ak hP hN rfl ?_
 (refine aj rfl fun _ k0 => ?_; simp only [zO, zT, acs, reduceCtorEq, aa, V, ad, ag, af, ae]; (repeat refine an ?_); refine Or.inr (Or.inl (k0 _ ?_)); clear k0; simp only [zP, V])
 iterate 3 (refine aj rfl fun _ k0 => ?_; simp only [zO, zT, acs, reduceCtorEq, aa, V, ad, ag, af, ae]; (repeat refine an ?_); (try refine .inl ?_); apply k0; clear k0; simp only [zP, V])
 refine am ?_
 apply k5; clear k5; refine kp [0, 2, 4] ?_
 refine aB ?_
 refine ⟨by first | exact .inl rfl | exact .inr rfl, _, rfl, _, _, rfl, ?_⟩
 rfl
theorem qP  : kF Try.prog 51 [.one .nils] (.int .i64) 3 (([] : List Int)) := by
 refine iX Try.func51 rfl (by kernel_rfl) (Nat.le_of_ble_eq_true rfl) rfl fun C hP hN hB => ?_
 replace hN : C.N = 8 := hN
 simp only [bg, V]
 refine ai fun _ k1 => ?_
 refine ak hP hN rfl ?_
 (refine aj rfl fun _ k0 => ?_; simp only [zO, zT, acs, reduceCtorEq, aa, V, ad, ag, af, ae]; (repeat refine an ?_); (try refine .inl ?_); apply k0; clear k0; simp only [zP, V])
 refine am ?_
 apply k1; clear k1; refine kp [0, 2] ?_
 refine ai fun _ k2 => ?_
 refine ai fun _ k3 => ?_
 refine ak hP hN rfl ?_
 iterate 2 (refine aj rfl fun _ k0 => ?_; simp only [zO, zT, acs, reduceCtorEq, aa, V, ad, ag, af, ae]; (repeat refine an ?_); (try refine .inl ?_); apply k0; clear k0; simp only [zP, V])
 refine am ?_
 apply k3; clear k3; refine kp [0, 2, 4] ?_
 refine cd (fun hc4 => ?_) (fun hc4 => ?_)
 ·(try simp only [zB, reduceCtorEq] at hc4)
  refine ai fun _ k5 => ?_
  refine ak hP hN rfl ?_
  (refine aj rfl fun _ k0 => ?_; simp only [zO, zT, acs, reduceCtorEq, aa, V, ad, ag, af, ae]; (repeat refine an ?_); (try refine .inl ?_); apply k0; clear k0; simp only [zP, V])
  refine am ?_
  apply k5; clear k5; refine kp [0, 2, 4] ?_
  refine fM 2 (.int .i64) 3 (by decide) rfl ?_; simp only [au, aE, aM, ba, Nat.zero_add, V]
  refine aB ?_
  refine ⟨by first | exact .inl rfl | exact .inr rfl, _, rfl, _, _, rfl, ?_⟩
  rfl
 · exfalso; (try simp only [zB, reduceCtorEq] at hc4); all_goals (first | (cases hc4; done) | omega | (simp at hc4; done) | (simp_all; done))
theorem m9 (xs : List Int) (h0 : 0 < xs.length) (h1 : xs.length ≤ 10000000000000) : kF Try.prog 51 [.one (.list (.int .i64) xs)] (.int .i64) 3 (xs) := by
 refine iX Try.func51 rfl (by kernel_rfl) (Nat.le_of_ble_eq_true rfl) rfl fun C hP hN hB => ?_
 replace hN : C.N = 8 := hN
 simp only [bg, V]
 refine ai fun _ k1 => ?_
 refine ak hP hN rfl ?_
 (refine aj rfl fun _ k0 => ?_; simp only [zO, zT, acs, reduceCtorEq, aa, V, ad, ag, af, ae]; (repeat refine an ?_); (try refine .inl ?_); apply k0; clear k0; simp only [zP, V])
 refine am ?_
 apply k1; clear k1; refine kp [0, 2] ?_
 refine ai fun _ k2 => ?_
 refine ai fun _ k3 => ?_
 refine ak hP hN rfl ?_
 iterate 2 (refine aj rfl fun _ k0 => ?_; simp only [zO, zT, acs, reduceCtorEq, aa, V, ad, ag, af, ae]; (repeat refine an ?_); (try refine .inl ?_); apply k0; clear k0; simp only [zP, V])
 refine am ?_
 apply k3; clear k3; refine kp [0, 2, 4] ?_
 refine cd (fun hc4 => ?_) (fun hc4 => ?_)
 · exfalso; (try simp only [zB, reduceCtorEq] at hc4); all_goals (first | (cases hc4; done) | omega | (simp at hc4; done) | (simp_all; done))
 (try simp only [zB, reduceCtorEq] at hc4)
 refine ax ?_
 apply k2; clear k2; refine kp [0, 2, 4] ?_
 refine ai fun _ k5 => ?_
 refine ak hP hN rfl ?_
 (refine aj rfl fun _ k0 => ?_; simp only [zO, zT, acs, reduceCtorEq, aa, V, ad, ag, af, ae]; (repeat refine an ?_); refine Or.inr (Or.inl (k0 _ ?_)); clear k0; simp only [zP, V])
 iterate 3 (refine aj rfl fun _ k0 => ?_; simp only [zO, zT, acs, reduceCtorEq, aa, V, ad, ag, af, ae]; (repeat refine an ?_); (try refine .inl ?_); apply k0; clear k0; simp only [zP, V])
 refine am ?_
 apply k5; clear k5; refine kp [0, 2, 4] ?_
 refine aB ?_
 refine ⟨by first | exact .inl rfl | exact .inr rfl, _, rfl, _, _, rfl, ?_⟩
 rfl
theorem sh {P : Program} {f : FuncId} {t t2 : Ty} {e2 : TypeId} {xs : List t.den} {ys : List t2.den} (h0 : xs = [] → kF P f [.one .nils] t2 e2 ys) (h1 : xs = [] → kF P f [.one .emp] t2 e2 ys) (h2 : 0 < xs.length → kF P f [.one (.list t xs)] t2 e2 ys) (hc : fI P f) : kF P f [.one (.list t xs)] t2 e2 ys := by
  refine ⟨hc, fun C L σ w vs hP hI ha => ?_⟩
  obtain ⟨u, rfl, hu⟩ := ha.one
  rcases jw hu with ⟨e, h⟩ | ⟨e, h⟩ | h
  · exact (h0 e).2 C L σ w _ hP hI ⟨h, trivial⟩
  · exact (h1 e).2 C L σ w _ hP hI ⟨h, trivial⟩
  · exact (h2 h).2 C L σ w _ hP hI ⟨hu, trivial⟩
theorem xp (xs : List Int) (h : xs.length ≤ 10000000000000) : kF Try.prog 51 [.one (.list (.int .i64) xs)] (.int .i64) 3 xs :=
  sh (t := .int .i64) (fun e => by subst e; exact qP) (fun e => by subst e; exact xA) (fun h0 => m9 xs h0 h) qP.1
set_option maxHeartbeats 1000000 in
theorem xQ (m : Mly) (l : List Int) (a : Int) (hm : MOK m) (hs : cU m l) (ha : 0 ≤ a ∧ a < m.inp) (hl : l.length ≤ 1000) : bZ Try.prog 72 [m.av, .one (.list (.int .i64) l), .one (.int .i64 a)] (.tup [.one (.list (.int .i64) (if unS m l a l.length = true then [] else cw m l a)), .one (.bool (!unS m l a l.length)), .one (.bool (!unS m l a l.length && smO m l a l.length))]) := by
 have ol := hm.ol
 refine aU Try.func72 rfl (by kernel_rfl) (Nat.le_of_ble_eq_true rfl) rfl fun C hP hN hB => ?_
 replace hN : C.N = 106 := hN
 simp only [bg, V]
 refine ai fun _ k1 => ?_
 refine ak hP hN rfl ?_
 iterate 4 (refine aj rfl fun _ k0 => ?_; simp only [zO, zT, acs, reduceCtorEq, aa, V, ad, ag, af, ae, Mly.av, ah]; (repeat refine an ?_); (try refine .inl ?_); apply k0; clear k0; simp only [zP, V])
 refine am ?_
 apply k1; clear k1; refine kp [0, 1, 2, 3, 6, 7, 8] ?_
 refine ai fun _ k2 => ?_
 refine ak hP hN rfl ?_
 iterate 2 (refine aj rfl fun _ k0 => ?_; simp only [zO, zT, acs, reduceCtorEq, aa, V, ad, ag, af, ae, Mly.av, ah]; (repeat refine an ?_); (try refine .inl ?_); apply k0; clear k0; simp only [zP, V])
 (refine aj rfl fun _ k0 => ?_; simp only [zE, op1, ev, lkp, d5, bQ, cr, fo, ew, cK, d7, eE, Nat.div_one, cR, df, Ty.size, br, dite_true, cQ, Ty.dflt, reduceCtorEq, aa, V, ad, ag, af, ae, Try.el41, Try.td3, Try.td41, Mly.av, ah]; (repeat refine an ?_); (try refine .inl ?_); apply k0; clear k0; simp only [zP, V])
 (refine aj rfl fun _ k0 => ?_; simp only [zO, zT, acs, reduceCtorEq, aa, V, ad, ag, af, ae, Mly.av, ah]; (repeat refine an ?_); (try refine .inl ?_); apply k0; clear k0; simp only [zP, V])
 refine am ?_
 apply k2; clear k2; refine kp [0, 1, 2, 3, 6, 7, 8, 9] ?_
 refine ai fun _ k3 => ?_
 refine ak hP hN rfl ?_
 (refine aj rfl fun _ k0 => ?_; simp only [zO, zT, acs, reduceCtorEq, aa, V, ad, ag, af, ae, Mly.av, ah]; (repeat refine an ?_); (try refine .inl ?_); apply k0; clear k0; simp only [zP, V])
 refine am ?_
 apply k3; clear k3; refine kp [0, 1, 2, 3, 6, 7, 8, 9, 10] ?_
 refine ai fun _ k4 => ?_
 refine ai fun _ k5 => ?_
 refine ak hP hN rfl ?_
 iterate 3 (refine aj rfl fun _ k0 => ?_; simp only [zO, zT, acs, reduceCtorEq, aa, V, ad, ag, af, ae, Mly.av, ah]; (repeat refine an ?_); (try refine .inl ?_); apply k0; clear k0; simp only [zP, V])
 refine am ?_
 apply k5; clear k5; refine kp [0, 1, 2, 3, 6, 7, 8, 9, 10, 18, 19, 20] ?_
 refine ay ?_
 refine bb (fun n6 s6 => ∃ (k : Nat) (v : Nat), (k ≤ l.length) ∧ (∀ k2 j2, k2 < k → j2 < k2 → clB m a (l.getD k2 0) (l.getD j2 0) = false) ∧ n6 = l.length - k ∧ s6 = { env := [(1, .one (.list (.int .i64) l)), (2, .one (.int .i64 a)), (3, .one (.ptr 0 0 0 0)), (6, .one .nils), (7, .one (.bool false)), (8, .one (.bool false)), (9, .one (.row 1 v)), (10, .one (.bool (smO m l a k))), (18, .one (.list (.int .i64) l)), (19, .one (.int .i64 (l.length : Int))), (20, .one (.int .i64 (k : Int)))], L := [.vars 24 [.int .i64 m.inp, .int .i64 m.st, .list (.list (.int .i64)) m.nx, .list (.list (.int .i64)) m.ot], .row (.int .i64) 3 v (cw m (l.take k) a)] }) ?_ ?_
 ·exact ⟨_, _, aw [1, 2, 3, 6, 7, 8, 9, 10, 18, 19, 20], 0, 0, Nat.zero_le _, fun k2 j2 h1 h2 => by omega, rfl, rfl⟩
 rintro n6 s6 ⟨k, v, hk, hu, rfl, rfl⟩
 refine ai fun _ k7 => ?_
 refine ak hP hN rfl ?_
 (refine aj rfl fun _ k0 => ?_; simp only [zO, zT, acs, reduceCtorEq, aa, V, ad, ag, af, ae, Mly.av, ah]; (repeat refine an ?_); (try refine .inl ?_); apply k0; clear k0; simp only [zP, V])
 refine am ?_
 apply k7; clear k7; refine kp [1, 2, 3, 6, 7, 8, 9, 10, 18, 19, 20, 21] ?_
 refine ai fun _ k8 => ?_
 refine cd (fun hc9 => ?_) (fun hc9 => ?_)
 ·(try simp only [zB, reduceCtorEq] at hc9)
  refine ax ?_
  apply k8; clear k8; refine kp [1, 2, 3, 6, 7, 8, 9, 10, 18, 19, 20, 21] ?_
  refine ai fun _ k10 => ?_
  refine ay ?_
  refine ai fun _ k11 => ?_
  refine ak hP hN rfl ?_
  iterate 5 (refine aj rfl fun _ k0 => ?_; simp only [zO, zT, acs, reduceCtorEq, aa, V, ad, ag, af, ae, Mly.av, ah]; (repeat refine an ?_); (try refine .inl ?_); apply k0; clear k0; simp only [zP, V])
  refine am ?_
  apply k11; clear k11; refine kp [1, 2, 3, 6, 7, 8, 9, 10, 11, 12, 18, 19, 20, 21] ?_
  refine ai fun _ k12 => ?_
  refine ai fun _ k13 => ?_
  have hkl : k < l.length := by omega
  have hsk := hs _ (bm hkl)
  have htl : (l.take k).length = k := by rw [List.length_take]; omega
  have q1 := hm.rl (l.getD k 0).toNat (by omega); have q2 := hm.ql (l.getD k 0).toNat (by omega)
  refine ak hP hN rfl ?_
  iterate 2 (refine aj rfl fun _ k0 => ?_; simp only [zO, zT, acs, reduceCtorEq, aa, V, ad, ag, af, ae, Mly.av, ah, htl]; (repeat refine an ?_); (try refine .inl ?_); apply k0; clear k0; simp only [zP, V])
  (refine aj rfl fun _ k0 => ?_; simp only [zE, op1, ev, lkp, d5, bQ, iy, bnd, Ty.size, cr, fo, ew, cK, d7, eE, Nat.div_one, cR, df, br, dite_true, reduceCtorEq, aa, V, ad, ag, af, ae, Try.el41, Try.td3, Try.td41, Mly.av, ah, htl]; (repeat refine an ?_); (try refine .inl ?_); apply k0; clear k0; simp only [zP, V])
  iterate 2 (refine aj rfl fun _ k0 => ?_; simp only [zO, zT, acs, reduceCtorEq, aa, V, ad, ag, af, ae, Mly.av, ah, htl]; (repeat refine an ?_); (try refine .inl ?_); apply k0; clear k0; simp only [zP, V])
  refine am ?_
  apply k13; clear k13; refine kp [1, 2, 3, 6, 7, 8, 9, 10, 11, 12, 18, 19, 20, 21, 27, 28, 29] ?_
  refine ay ?_
  refine bb (fun n14 s14 => ∃ (j : Nat), (j ≤ k) ∧ (∀ j2, j2 < j → clB m a (l.getD k 0) (l.getD j2 0) = false) ∧ n14 = k - j ∧ s14 = { env := [(1, .one (.list (.int .i64) l)), (2, .one (.int .i64 a)), (3, .one (.ptr 0 0 0 0)), (6, .one .nils), (7, .one (.bool false)), (8, .one (.bool false)), (9, .one (.row 1 v)), (10, .one (.bool (smO m l a k))), (11, .one (.int .i64 (k : Int))), (12, .one (.int .i64 (l.getD k 0))), (18, .one (.list (.int .i64) l)), (19, .one (.int .i64 (l.length : Int))), (20, .one (.int .i64 (k : Int))), (27, .one (.list (.int .i64) (l.take k))), (28, .one (.int .i64 (k : Int))), (29, .one (.int .i64 (j : Int)))], L := [.vars 24 [.int .i64 m.inp, .int .i64 m.st, .list (.list (.int .i64)) m.nx, .list (.list (.int .i64)) m.ot], .row (.int .i64) 3 v (cw m (l.take k) a)] }) ?_ ?_
  ·exact ⟨_, _, aw [1, 2, 3, 6, 7, 8, 9, 10, 11, 12, 18, 19, 20, 27, 28, 29], 0, Nat.zero_le _, fun j2 h => by omega, rfl, rfl⟩
  rintro n14 s14 ⟨j, hj, hq, rfl, rfl⟩
  refine ai fun _ k15 => ?_
  refine ak hP hN rfl ?_
  (refine aj rfl fun _ k0 => ?_; simp only [zO, zT, acs, reduceCtorEq, aa, V, ad, ag, af, ae, Mly.av, ah]; (repeat refine an ?_); (try refine .inl ?_); apply k0; clear k0; simp only [zP, V])
  refine am ?_
  apply k15; clear k15; refine kp [1, 2, 3, 6, 7, 8, 9, 10, 11, 12, 18, 19, 20, 27, 28, 29, 30] ?_
  refine ai fun _ k16 => ?_
  refine cd (fun hc17 => ?_) (fun hc17 => ?_)
  ·(try simp only [zB, reduceCtorEq] at hc17)
   refine ax ?_
   apply k16; clear k16; refine kp [1, 2, 3, 6, 7, 8, 9, 10, 11, 12, 18, 19, 20, 27, 28, 29, 30] ?_
   refine ai fun _ k18 => ?_
   refine ay ?_
   refine ai fun _ k19 => ?_
   have hjl : j < l.length := by omega
   have hsj := hs _ (bm hjl)
   have hgj : (l.take k).getD j 0 = (l.getD j 0) := by simp [List.getD, show j < k by omega]
   have q3 := hm.rl (l.getD j 0).toNat (by omega); have q4 := hm.ql (l.getD j 0).toNat (by omega)
   refine ak hP hN rfl ?_
   iterate 3 (refine aj rfl fun _ k0 => ?_; simp only [zO, zT, acs, reduceCtorEq, aa, V, ad, ag, af, ae, Mly.av, ah, hgj]; (repeat refine an ?_); (try refine .inl ?_); apply k0; clear k0; simp only [zP, V])
   refine am ?_
   apply k19; clear k19; refine kp [1, 2, 3, 6, 7, 8, 9, 10, 11, 12, 14, 18, 19, 20, 27, 28, 29, 30] ?_
   refine ai fun _ k20 => ?_
   refine bp hP hN Try.mixed rfl ?_
   iterate 18 (refine aj rfl fun _ k0 => ?_; simp only [zO, zT, acs, reduceCtorEq, aa, V, ad, ag, af, ae, Mly.av, ah]; (repeat refine an ?_); (try refine .inl ?_); apply k0; clear k0; simp only [zP, V])
   refine' aP (want := true) 17 rfl (m := 50) (by simp only [zP, aa, V]; exact rfl) (by kernel_rfl) rfl rfl rfl rfl rfl (fun hg21 => ?a21) ?b21 ?c21
   case a21 =>
    have hq21 := hg21; (try simp only [zB, reduceCtorEq] at hg21); simp only [zE]
    iterate 17 (refine bf rfl fun _ k0 => ?_; simp only [zO, zT, acs, reduceCtorEq, aa, V, ad, ag, af, ae, Mly.av, ah]; (repeat refine an ?_); (try refine .inl ?_); apply k0; clear k0; simp only [zP, V])
    (refine aj rfl fun _ k0 => ?_; simp only [zO, zT, acs, reduceCtorEq, aa, V, ad, ag, af, ae, Mly.av, ah]; (repeat refine an ?_); (try refine .inl ?_); apply k0; clear k0; simp only [zP, V])
    refine am ?_
    refine ⟨by simp only [zP, aa, V]; exact rfl, rfl, ?_, rfl⟩; (repeat refine aQ rfl ?_); exact bn (by exact rfl) hq21
   case b21 => exact cq
   simp only [b7, aT]
   refine am ?_
   refine ⟨by kernel_rfl, ?_⟩
   apply k20; clear k20; refine kp [1, 2, 3, 6, 7, 8, 9, 10, 11, 12, 14, 18, 19, 20, 27, 28, 29, 30, 68] ?_
   refine cd (fun hc22 => ?_) (fun hc22 => ?_)
   ·(try simp only [zB, reduceCtorEq] at hc22)
    have hy : clB m a (l.getD k 0) (l.getD j 0) = true := by have h9 := hc22; unfold clB Mly.out Mly.nxt; simpa using h9
    have hun : unS m l a l.length = true := yU hkl (by omega) hy
    refine ai fun _ k23 => ?_
    refine ak hP hN rfl ?_
    iterate 3 (refine aj rfl fun _ k0 => ?_; simp only [zO, zT, acs, reduceCtorEq, aa, V, ad, ag, af, ae, Mly.av, ah]; (repeat refine an ?_); (try refine .inl ?_); apply k0; clear k0; simp only [zP, V])
    refine am ?_
    apply k23; clear k23; refine kp [1, 2, 3, 6, 7, 8, 9, 10, 11, 12, 14, 18, 19, 20, 27, 28, 29, 30, 68] ?_
    refine aB ?_
    refine ⟨nr, _, rfl, ?_⟩; simp only [zF, zP, aa, V, Mly.av, ah]
    first
    | (rw [hun]; exact cv ⟨aZ (bz rfl), aZ (.refl _), aZ (.refl _), trivial⟩)
    | (rw [hun, hkw, aJ]; exact VLE.of_eq rfl)
   (try simp only [zB, reduceCtorEq] at hc22)
   have hy : clB m a (l.getD k 0) (l.getD j 0) = false := by have h9 := hc22; unfold clB Mly.out Mly.nxt; rw [Bool.and_eq_false_iff, decide_eq_false_iff_not, decide_eq_false_iff_not]; exact h9
   refine ax ?_
   apply k18; clear k18; refine kp [1, 2, 3, 6, 7, 8, 9, 10, 11, 12, 14, 18, 19, 20, 27, 28, 29, 30, 68] ?_
   refine ak hP hN rfl ?_
   iterate 2 (refine aj rfl fun _ k0 => ?_; simp only [zO, zT, acs, reduceCtorEq, aa, V, ad, ag, af, ae, Mly.av, ah]; (repeat refine an ?_); (try refine .inl ?_); apply k0; clear k0; simp only [zP, V])
   refine am ?_
   refine ⟨_, _, ?_, aw [1, 2, 3, 6, 7, 8, 9, 10, 11, 12, 18, 19, 20, 27, 28, 29], j + 1, by omega, fun j2 h2 => ?_, rfl, rfl⟩
   · omega
   · by_cases e : j2 = j
     · rw [e]; exact hy
     · exact hq j2 (by omega)
  (try simp only [zB, reduceCtorEq] at hc17)
  refine aX ?_
  apply k12; clear k12; refine kp [1, 2, 3, 6, 7, 8, 9, 10, 11, 12, 18, 19, 20, 27, 28, 29, 30] ?_
  refine ai fun _ k24 => ?_
  have hs0 := hs _ (bm (w := l) (i := 0) (by omega))
  have q5 := hm.ql (l.getD 0 0).toNat (by omega)
  have hjk : j = k := by omega
  have hnl : (cw m (l.take k) a).length = k := by unfold cw; rw [az]; exact htl
  have hcl : ∀ k2 j2, k2 < k + 1 → j2 < k2 → clB m a (l.getD k2 0) (l.getD j2 0) = false := fun k2 j2 h1 h2 => by
    by_cases e : k2 = k
    · rw [e]; exact hq j2 (by omega)
    · exact hu k2 j2 (by omega) h2
  have hsm := xN m l a k
  refine bp hP hN Try.mixed rfl ?_
  iterate 2 (refine aj rfl fun _ k0 => ?_; simp only [zO, zT, acs, reduceCtorEq, aa, V, ad, ag, af, ae, Mly.av, ah]; (repeat refine an ?_); (try refine .inl ?_); apply k0; clear k0; simp only [zP, V])
  refine' aP (want := true) 19 rfl (m := 71) (by simp only [zP, aa, V]; exact rfl) (by kernel_rfl) rfl rfl rfl rfl rfl (fun hg25 => ?a25) ?b25 ?c25
  case a25 =>
   have hq25 := hg25; (try simp only [zB, reduceCtorEq] at hg25); simp only [zE]
   iterate 19 (refine bf rfl fun _ k0 => ?_; simp only [zO, zT, acs, reduceCtorEq, aa, V, ad, ag, af, ae, Mly.av, ah]; (repeat refine an ?_); (try refine .inl ?_); apply k0; clear k0; simp only [zP, V])
   (refine aj rfl fun _ k0 => ?_; simp only [zO, zT, acs, reduceCtorEq, aa, V, ad, ag, af, ae, Mly.av, ah]; (repeat refine an ?_); (try refine .inl ?_); apply k0; clear k0; simp only [zP, V])
   refine am ?_
   refine ⟨by simp only [zP, aa, V]; exact rfl, rfl, ?_, rfl⟩; (repeat refine aQ rfl ?_); exact bn (by exact rfl) hq25
  case b25 => exact cq
  simp only [b7, aT]
  (refine aj rfl fun _ k0 => ?_; simp only [zO, zT, acs, reduceCtorEq, aa, V, ad, ag, af, ae, Mly.av, ah]; (repeat refine an ?_); (try refine .inl ?_); apply k0; clear k0; simp only [zP, V])
  refine am ?_
  refine ⟨by kernel_rfl, ?_⟩
  apply k24; clear k24; refine kp [1, 2, 3, 6, 7, 8, 9, 10, 11, 12, 18, 19, 20, 27, 28, 29, 30] ?_
  refine ak hP hN rfl ?_
  iterate 12 (refine aj rfl fun _ k0 => ?_; simp only [zO, zT, acs, reduceCtorEq, aa, V, ad, ag, af, ae, Mly.av, ah]; (repeat refine an ?_); (try refine .inl ?_); apply k0; clear k0; simp only [zP, V])
  refine am ?_
  apply k10; clear k10; refine kp [1, 2, 3, 6, 7, 8, 9, 10, 11, 12, 18, 19, 20, 27, 28, 29, 30] ?_
  refine ak hP hN rfl ?_
  iterate 2 (refine aj rfl fun _ k0 => ?_; simp only [zO, zT, acs, reduceCtorEq, aa, V, ad, ag, af, ae, Mly.av, ah]; (repeat refine an ?_); (try refine .inl ?_); apply k0; clear k0; simp only [zP, V])
  refine am ?_
  refine ⟨_, _, ?_, aw [1, 2, 3, 6, 7, 8, 9, 10, 18, 19, 20], k + 1, v + 1, by omega, hcl, rfl, ?_⟩
  · omega
  · rw [uk hkl, hsm]; rfl
 (try simp only [zB, reduceCtorEq] at hc9)
 refine aX ?_
 apply k4; clear k4; refine kp [1, 2, 3, 6, 7, 8, 9, 10, 18, 19, 20, 21] ?_
 refine ai fun _ k26 => ?_
 refine cO 1 rfl ?_; simp only [aF, bl, zS, aa, and_self, and_true, true_and, and_false, false_and, if_true, if_false, eq_self, reduceCtorEq, Nat.one_ne_zero, Nat.zero_ne_one]
 have hkw : k = l.length := by omega
 have hun : unS m l a l.length = false := zJ fun k2 j2 h1 h2 => hu k2 j2 (by omega) h2
 refine ak hP hN rfl ?_
 iterate 5 (refine aj rfl fun _ k0 => ?_; simp only [zO, zT, acs, reduceCtorEq, aa, V, ad, ag, af, ae, Mly.av, ah]; (repeat refine an ?_); (try refine .inl ?_); apply k0; clear k0; simp only [zP, V])
 refine am ?_
 apply k26; clear k26; refine kp [1, 2, 3, 6, 7, 8, 9, 10, 18, 19, 20, 21] ?_
 refine aB ?_
 refine ⟨nr, _, rfl, ?_⟩; simp only [zF, zP, aa, V, Mly.av, ah]
 first
 | (rw [hun]; exact cv ⟨aZ (bz rfl), aZ (.refl _), aZ (.refl _), trivial⟩)
 | (rw [hun, hkw, aJ]; exact VLE.of_eq rfl)
theorem oz (xs : List Int) (hx : kD xs) (hl : xs.length ≤ 1000000) : bZ Try.prog 71 [.one (.list (.int .i64) xs)] (.one (.str (gc xs))) := by
 refine aU Try.func71 rfl (by kernel_rfl) (Nat.le_of_ble_eq_true rfl) rfl fun C hP hN hB => ?_
 replace hN : C.N = 23 := hN
 simp only [bg, V]
 refine ai fun _ k1 => ?_
 refine ak hP hN rfl ?_
 (refine aj rfl fun _ k0 => ?_; simp only [zO, zT, acs, reduceCtorEq, aa, V, ad, ag, af, ae, eB]; (repeat refine an ?_); (try refine .inl ?_); apply k0; clear k0; simp only [zP, V])
 refine am ?_
 apply k1; clear k1; refine kp [0, 2] ?_
 refine ai fun _ k2 => ?_
 refine ak hP hN rfl ?_
 iterate 2 (refine aj rfl fun _ k0 => ?_; simp only [zO, zT, acs, reduceCtorEq, aa, V, ad, ag, af, ae, eB]; (repeat refine an ?_); (try refine .inl ?_); apply k0; clear k0; simp only [zP, V])
 (refine aj rfl fun _ k0 => ?_; simp only [zE, op1, ev, lkp, d5, bQ, cr, fo, ew, cK, d7, eE, Nat.div_one, cR, df, Ty.size, br, dite_true, cQ, Ty.dflt, reduceCtorEq, aa, V, ad, ag, af, ae, Try.el129, Try.el41, Try.td129, Try.td3, Try.td41, eB]; (repeat refine an ?_); (try refine .inl ?_); apply k0; clear k0; simp only [zP, V])
 (refine aj rfl fun _ k0 => ?_; simp only [zO, zT, acs, reduceCtorEq, aa, V, ad, ag, af, ae, eB]; (repeat refine an ?_); (try refine .inl ?_); apply k0; clear k0; simp only [zP, V])
 refine am ?_
 apply k2; clear k2; refine kp [0, 2, 3] ?_
 refine ai fun _ k3 => ?_
 refine ai fun _ k4 => ?_
 refine ak hP hN rfl ?_
 iterate 3 (refine aj rfl fun _ k0 => ?_; simp only [zO, zT, acs, reduceCtorEq, aa, V, ad, ag, af, ae, eB]; (repeat refine an ?_); (try refine .inl ?_); apply k0; clear k0; simp only [zP, V])
 refine am ?_
 apply k4; clear k4; refine kp [0, 2, 3, 9, 10, 11] ?_
 refine ay ?_
 refine bb (fun n5 s5 => ∃ (k : Nat) (v : Nat), (k ≤ xs.length) ∧ n5 = xs.length - k ∧ s5 = { env := [(2, .one (.str [])), (3, .one (.row 0 v)), (9, .one (.list (.int .i64) xs)), (10, .one (.int .i64 (xs.length : Int))), (11, .one (.int .i64 (k : Int)))], L := [.row (.int .u8) 5 v (xs.take k)] }) ?_ ?_
 ·exact ⟨_, _, aw [2, 3, 9, 10, 11], 0, 0, Nat.zero_le _, rfl, rfl⟩
 rintro n5 s5 ⟨k, v, hk, rfl, rfl⟩
 refine ai fun _ k6 => ?_
 refine ak hP hN rfl ?_
 (refine aj rfl fun _ k0 => ?_; simp only [zO, zT, acs, reduceCtorEq, aa, V, ad, ag, af, ae, eB]; (repeat refine an ?_); (try refine .inl ?_); apply k0; clear k0; simp only [zP, V])
 refine am ?_
 apply k6; clear k6; refine kp [2, 3, 9, 10, 11, 12] ?_
 refine ai fun _ k7 => ?_
 refine cd (fun hc8 => ?_) (fun hc8 => ?_)
 ·(try simp only [zB, reduceCtorEq] at hc8)
  refine ax ?_
  apply k7; clear k7; refine kp [2, 3, 9, 10, 11, 12] ?_
  refine ai fun _ k9 => ?_
  refine ay ?_
  refine ai fun _ k10 => ?_
  refine ak hP hN rfl ?_
  iterate 3 (refine aj rfl fun _ k0 => ?_; simp only [zO, zT, acs, reduceCtorEq, aa, V, ad, ag, af, ae, eB]; (repeat refine an ?_); (try refine .inl ?_); apply k0; clear k0; simp only [zP, V])
  refine am ?_
  apply k10; clear k10; refine kp [2, 3, 5, 9, 10, 11, 12] ?_
  have hxk := hx _ (bm (w := xs) (i := k) (by omega))
  have htl : (xs.take k).length = k := by rw [List.length_take]; omega
  refine ak hP hN rfl ?_
  iterate 2 (refine aj rfl fun _ k0 => ?_; simp only [zO, zT, acs, reduceCtorEq, aa, V, ad, ag, af, ae, eB]; (repeat refine an ?_); (try refine .inl ?_); apply k0; clear k0; simp only [zP, V])
  (refine aj rfl fun _ k0 => ?_; simp only [zE, op1, ev, lkp, d5, bQ, gp, dv, cb, dm, rep, br, bJ, cf, Ty.size, cr, fo, ew, cK, d7, eE, Nat.div_one, cR, df, dite_true, reduceCtorEq, aa, V, ad, ag, af, ae, Try.el129, Try.td1, Try.td129, Try.td3, Try.td5, eB]; (repeat refine an ?_); (try refine .inl ?_); apply k0; clear k0; simp only [zP, V])
  iterate 3 (refine aj rfl fun _ k0 => ?_; simp only [zO, zT, acs, reduceCtorEq, aa, V, ad, ag, af, ae, eB]; (repeat refine an ?_); (try refine .inl ?_); apply k0; clear k0; simp only [zP, V])
  refine am ?_
  apply k9; clear k9; refine kp [2, 3, 5, 9, 10, 11, 12] ?_
  refine ak hP hN rfl ?_
  iterate 2 (refine aj rfl fun _ k0 => ?_; simp only [zO, zT, acs, reduceCtorEq, aa, V, ad, ag, af, ae, eB]; (repeat refine an ?_); (try refine .inl ?_); apply k0; clear k0; simp only [zP, V])
  refine am ?_
  refine ⟨_, _, ?_, aw [2, 3, 9, 10, 11], k + 1, v + 1, by omega, rfl, ?_⟩
  · omega
  · rw [cP (by omega)]; rfl
 (try simp only [zB, reduceCtorEq] at hc8)
 refine aX ?_
 apply k3; clear k3; refine kp [2, 3, 9, 10, 11, 12] ?_
 refine ai fun _ k11 => ?_
 refine cO 0 rfl ?_; simp only [aF, bl, zS, aa, and_self, and_true, true_and, and_false, false_and, if_true, if_false, eq_self, reduceCtorEq, Nat.one_ne_zero, Nat.zero_ne_one]
 have hkw : k = xs.length := by omega
 rw [hkw, aJ]
 refine ak hP hN rfl ?_
 (refine aj rfl fun _ k0 => ?_; simp only [zO, zT, acs, reduceCtorEq, aa, V, ad, ag, af, ae, eB]; (repeat refine an ?_); (try refine .inl ?_); apply k0; clear k0; simp only [zP, V])
 (refine aj rfl fun _ k0 => ?_; simp only [zE, op1, ev, lkp, d5, bQ, gp, reduceCtorEq, aa, V, ad, ag, af, ae, Try.el129, Try.td129, Try.td9, eB]; refine ⟨⟨_, _, rfl, Try.td5, rfl⟩, k0 _ ?_⟩; clear k0; simp only [zP, V])
 (refine aj rfl fun _ k0 => ?_; simp only [zO, zT, acs, reduceCtorEq, aa, V, ad, ag, af, ae, eB]; (repeat refine an ?_); (try refine .inl ?_); apply k0; clear k0; simp only [zP, V])
 refine am ?_
 apply k11; clear k11; refine kp [2, 3, 9, 10, 11, 12] ?_
 refine aB ?_
 refine ⟨nr, _, rfl, ?_⟩; simp only [zF, zP, aa, V, eB]
 refine VLE.of_eq ?_
 rfl
set_option maxHeartbeats 1500000 in
theorem zt (m : Mly) (l : List Int) (hm : MOK m) (hs : cU m l) (hl : l.length ≤ 1000) : bZ Try.prog 52 [m.av, .one (.list (.int .i64) l)] (.tup [.one (.list (.int .i64) ((fdW m l).getD [])), .one (.bool (fdW m l).isSome)]) := by
 refine aU Try.func52 rfl (by kernel_rfl) (Nat.le_of_ble_eq_true rfl) rfl fun C hP hN hB => ?_
 replace hN : C.N = 75 := hN
 simp only [bg, V]
 have hi1 := hm.i1; have hi2 := hm.i2
 have hks0 : (gc l).length ≤ 9223372036854775807 := by unfold gc; rw [az]; omega
 refine ai fun _ k1 => ?_
 refine ak hP hN rfl ?_
 iterate 3 (refine aj rfl fun _ k0 => ?_; simp only [zO, zT, acs, reduceCtorEq, aa, V, ad, ag, af, ae, Mly.av, ah, az, bE, Option.map_some, AV.valOf]; (repeat refine And.intro (by first | omega | assumption | exact hks | exact hks0 | exact rfl) ?_); (try refine .inl ?_); apply k0; clear k0; simp only [zP, V])
 refine am ?_
 apply k1; clear k1; refine kp [0, 1, 2, 4, 5] ?_
 refine ai fun _ k2 => ?_
 refine ak hP hN rfl ?_
 (refine aj rfl fun _ k0 => ?_; simp only [zE, op1, ev, lkp, d5, bQ, j7, reduceCtorEq, aa, V, ad, ag, af, ae, Try.el41, Try.mk115, Try.td41, Mly.av, ah, az, bE, Option.map_some, AV.valOf]; (repeat refine And.intro (by first | omega | assumption | exact hks | exact hks0 | exact rfl) ?_); (try refine .inl ?_); apply k0; clear k0; simp only [zP, V])
 (refine aj rfl fun _ k0 => ?_; simp only [zO, zT, acs, reduceCtorEq, aa, V, ad, ag, af, ae, Mly.av, ah, az, bE, Option.map_some, AV.valOf]; (repeat refine And.intro (by first | omega | assumption | exact hks | exact hks0 | exact rfl) ?_); (try refine .inl ?_); apply k0; clear k0; simp only [zP, V])
 refine aj rfl fun _ k0 => ?_
 refine aN (h := aA (oz l (eQ hm hs) (by omega))) rfl rfl (by first | exact rfl | (simp only [ev, zP, aa, V]; exact rfl)) (by simp only [zV, acs, reduceCtorEq, aa, V, ad, ag, af, ae, Mly.av, ah, az, bE, Option.map_some, AV.valOf]) ?_
 apply k0; clear k0; simp only [zP, V]
 (refine aj rfl fun _ k0 => ?_; simp only [zE, op1, ev, lkp, d5, bQ, et, bE, valOf, reduceCtorEq, aa, V, ad, ag, af, ae, Try.mk115, Mly.av, ah, az, bE, Option.map_some, AV.valOf]; (repeat refine And.intro (by first | omega | assumption | exact hks | exact hks0 | exact rfl) ?_); (try refine .inl ?_); apply k0; clear k0; simp only [zP, V])
 iterate 2 (refine aj rfl fun _ k0 => ?_; simp only [zO, zT, acs, reduceCtorEq, aa, V, ad, ag, af, ae, Mly.av, ah, az, bE, Option.map_some, AV.valOf]; (repeat refine And.intro (by first | omega | assumption | exact hks | exact hks0 | exact rfl) ?_); (try refine .inl ?_); apply k0; clear k0; simp only [zP, V])
 refine am ?_
 apply k2; clear k2; refine kp [0, 1, 2, 4, 5, 6] ?_
 refine ai fun _ k3 => ?_
 refine ak hP hN rfl ?_
 iterate 2 (refine aj rfl fun _ k0 => ?_; simp only [zO, zT, acs, reduceCtorEq, aa, V, ad, ag, af, ae, Mly.av, ah, az, bE, Option.map_some, AV.valOf]; (repeat refine And.intro (by first | omega | assumption | exact hks | exact hks0 | exact rfl) ?_); (try refine .inl ?_); apply k0; clear k0; simp only [zP, V])
 (refine aj rfl fun _ k0 => ?_; simp only [zO, zT, acs, reduceCtorEq, aa, V, ad, ag, af, ae, Mly.av, ah, az, bE, Option.map_some, AV.valOf]; (repeat refine And.intro (by first | omega | assumption | exact hks | exact hks0 | exact rfl) ?_); refine Or.inr (Or.inl (k0 _ ?_)); clear k0; simp only [zP, V])
 (refine aj rfl fun _ k0 => ?_; simp only [zO, zT, acs, reduceCtorEq, aa, V, ad, ag, af, ae, Mly.av, ah, az, bE, Option.map_some, AV.valOf]; (repeat refine And.intro (by first | omega | assumption | exact hks | exact hks0 | exact rfl) ?_); (try refine .inl ?_); apply k0; clear k0; simp only [zP, V])
 refine am ?_
 apply k3; clear k3; refine kp [0, 1, 2, 4, 5, 6, 7] ?_
 refine ai fun _ k4 => ?_
 refine ai fun _ k5 => ?_
 refine ak hP hN rfl ?_
 (refine aj rfl fun _ k0 => ?_; simp only [zO, zT, acs, reduceCtorEq, aa, V, ad, ag, af, ae, Mly.av, ah, az, bE, Option.map_some, AV.valOf]; (repeat refine And.intro (by first | omega | assumption | exact hks | exact hks0 | exact rfl) ?_); (try refine .inl ?_); apply k0; clear k0; simp only [zP, V])
 refine am ?_
 apply k5; clear k5; refine kp [0, 1, 2, 4, 5, 6, 7, 8] ?_
 refine ay ?_
 refine bb (fun n6 s6 => ∃ (k : Nat) (v : Nat) (Q : List SS), (FQ m l.length Q) ∧ ((fR m (4097 - k) k ⟨Q, none⟩).res = kJ m l) ∧ n6 = 4097 - k ∧ s6 = { env := [(2, .one (.ptr 0 0 0 0)), (4, .one .nils), (5, .one (.bool false)), (6, .one (.mpv 1)), (7, .one (.row 2 v)), (8, .one (.int .i64 (k : Int)))], L := [.vars 24 [.int .i64 m.inp, .int .i64 m.st, .list (.list (.int .i64)) m.nx, .list (.list (.int .i64)) m.ot], .mp 115 .bool (esB Q), .row (.pair (.list (.int .i64)) (.pair (.list (.int .i64)) .unit)) 117 v (List.map pI Q)] }) ?_ ?_
 ·exact ⟨_, _, aw [2, 4, 5, 6, 7, 8], 0, 0, [(l, [])], FQ.one hs, rfl, rfl, rfl⟩
 rintro n6 s6 ⟨k, v, Q, hQ, hrun, rfl, rfl⟩
 refine ai fun _ k7 => ?_
 refine ai fun _ k8 => ?_
 refine ak hP hN rfl ?_
 iterate 4 (refine aj rfl fun _ k0 => ?_; simp only [zO, zT, acs, reduceCtorEq, aa, V, ad, ag, af, ae, Mly.av, ah, az, bE, Option.map_some, AV.valOf]; (repeat refine And.intro (by first | omega | assumption | exact hks | exact hks0 | exact rfl) ?_); (try refine .inl ?_); apply k0; clear k0; simp only [zP, V])
 refine am ?_
 apply k8; clear k8; refine kp [2, 4, 5, 6, 7, 8, 24] ?_
 refine cd (fun hc9 => ?_) (fun hc9 => ?_)
 ·(try simp only [zB, reduceCtorEq] at hc9)
  refine ax ?_
  apply k7; clear k7; refine kp [2, 4, 5, 6, 7, 8, 24] ?_
  refine ai fun _ k10 => ?_
  refine ay ?_
  refine ai fun _ k11 => ?_
  refine ak hP hN rfl ?_
  iterate 3 (refine aj rfl fun _ k0 => ?_; simp only [zO, zT, acs, reduceCtorEq, aa, V, ad, ag, af, ae, Mly.av, ah, az, bE, Option.map_some, AV.valOf]; (repeat refine And.intro (by first | omega | assumption | exact hks | exact hks0 | exact rfl) ?_); (try refine .inl ?_); apply k0; clear k0; simp only [zP, V])
  refine am ?_
  apply k11; clear k11; refine kp [2, 4, 5, 6, 7, 8, 24, 28, 29] ?_
  refine ay ?_
  have hkl : k < Q.length := by omega
  have hql := hQ.le
  refine bb (fun n12 s12 => ∃ (a : Nat) (v2 : Nat) (Q2 : List SS), ((a : Int) ≤ m.inp) ∧ (FQ m l.length Q2) ∧ (k < Q2.length) ∧ ((List.range a).foldl (d6 m k) ⟨Q, none⟩ = ⟨Q2, none⟩) ∧ n12 = m.inp.toNat - a ∧ s12 = { env := [(2, .one (.ptr 0 0 0 0)), (4, .one .nils), (5, .one (.bool false)), (6, .one (.mpv 1)), (7, .one (.row 2 v2)), (8, .one (.int .i64 (k : Int))), (28, .one (.int .i64 m.inp)), (29, .one (.int .i64 (a : Int)))], L := [.vars 24 [.int .i64 m.inp, .int .i64 m.st, .list (.list (.int .i64)) m.nx, .list (.list (.int .i64)) m.ot], .mp 115 .bool (esB Q2), .row (.pair (.list (.int .i64)) (.pair (.list (.int .i64)) .unit)) 117 v2 (List.map pI Q2)] }) ?_ ?_
  ·have hi9 := hm.i1
   exact ⟨_, _, aw [2, 4, 5, 6, 7, 8, 28, 29], 0, v, Q, by omega, hQ, hkl, rfl, rfl, rfl⟩
  rintro n12 s12 ⟨a, v2, Q2, ha, hQ2, hk2, hf, rfl, rfl⟩
  refine ai fun _ k13 => ?_
  refine ak hP hN rfl ?_
  (refine aj rfl fun _ k0 => ?_; simp only [zO, zT, acs, reduceCtorEq, aa, V, ad, ag, af, ae, Mly.av, ah, az, bE, Option.map_some, AV.valOf]; (repeat refine And.intro (by first | omega | assumption | exact hks | exact hks0 | exact rfl) ?_); (try refine .inl ?_); apply k0; clear k0; simp only [zP, V])
  refine am ?_
  apply k13; clear k13; refine kp [2, 4, 5, 6, 7, 8, 28, 29, 30] ?_
  refine ai fun _ k14 => ?_
  refine cd (fun hc15 => ?_) (fun hc15 => ?_)
  ·(try simp only [zB, reduceCtorEq] at hc15)
   refine ax ?_
   apply k14; clear k14; refine kp [2, 4, 5, 6, 7, 8, 28, 29, 30] ?_
   refine ai fun _ k16 => ?_
   refine ay ?_
   refine ai fun _ k17 => ?_
   refine ak hP hN rfl ?_
   iterate 2 (refine aj rfl fun _ k0 => ?_; simp only [zO, zT, acs, reduceCtorEq, aa, V, ad, ag, af, ae, Mly.av, ah, az, bE, Option.map_some, AV.valOf]; (repeat refine And.intro (by first | omega | assumption | exact hks | exact hks0 | exact rfl) ?_); (try refine .inl ?_); apply k0; clear k0; simp only [zP, V])
   refine am ?_
   apply k17; clear k17; refine kp [2, 4, 5, 6, 7, 8, 9, 28, 29, 30] ?_
   refine ai fun _ k18 => ?_
   obtain ⟨hsb, hln, hwl⟩ := hQ2.at_ (i := k) (by omega)
   have hgi : ∀ d, (List.map pI Q2).getD k d = ((Q2.getD k ss0).1, ((Q2.getD k ss0).2, ())) := fun d => A9 (by omega) d
   have hkL : k < Q2.length := by omega
   have hnx := sI hm (a := (a : Int)) ⟨by omega, by omega⟩ hsb
   have hq2l := hQ2.le
   have hks : (gc (cw m (Q2.getD k ss0).1 (a : Int))).length ≤ 9223372036854775807 := by unfold gc; rw [az]; omega
   have hlk := wV (Q := Q2) (eQ hm hnx.1) (fun s h => eQ hm (hQ2.st s h))
   refine bp hP hN Try.mixed rfl ?_
   iterate 7 (refine aj rfl fun _ k0 => ?_; simp only [zO, zT, acs, reduceCtorEq, aa, V, ad, ag, af, ae, Mly.av, ah, az, bE, Option.map_some, AV.valOf, hgi]; (repeat refine And.intro (by first | omega | assumption | exact hks | exact hks0 | exact rfl) ?_); (try refine .inl ?_); apply k0; clear k0; simp only [zP, V])
   refine aj rfl fun _ k0 => ?_
   refine aN (h := aA (xQ m (Q2.getD k ss0).1 (a : Int) hm hsb (by omega) (by omega))) rfl rfl (by first | exact rfl | (simp only [ev, zP, aa, V]; exact rfl)) (by simp only [zV, acs, reduceCtorEq, aa, V, ad, ag, af, ae, Mly.av, ah, az, bE, Option.map_some, AV.valOf, hgi]) ?_
   apply k0; clear k0; simp only [zP, V]
   iterate 7 (refine aj rfl fun _ k0 => ?_; simp only [zO, zT, acs, reduceCtorEq, aa, V, ad, ag, af, ae, Mly.av, ah, az, bE, Option.map_some, AV.valOf, hgi]; (repeat refine And.intro (by first | omega | assumption | exact hks | exact hks0 | exact rfl) ?_); (try refine .inl ?_); apply k0; clear k0; simp only [zP, V])
   refine am ?_
   refine ⟨by kernel_rfl, ?_⟩
   apply k18; clear k18; refine kp [2, 4, 5, 6, 7, 8, 9, 10, 11, 12, 28, 29, 30] ?_
   refine ai fun _ k19 => ?_
   refine ai fun _ k20 => ?_
   refine ak hP hN rfl ?_
   iterate 2 (refine aj rfl fun _ k0 => ?_; simp only [zO, zT, acs, reduceCtorEq, aa, V, ad, ag, af, ae, Mly.av, ah, az, bE, Option.map_some, AV.valOf]; (repeat refine And.intro (by first | omega | assumption | exact hks | exact hks0 | exact rfl) ?_); (try refine .inl ?_); apply k0; clear k0; simp only [zP, V])
   refine am ?_
   apply k20; clear k20; refine kp [2, 4, 5, 6, 7, 8, 9, 10, 11, 12, 28, 29, 30, 45] ?_
   refine cd (fun hc21 => ?_) (fun hc21 => ?_)
   ·(try simp only [zB, reduceCtorEq] at hc21)
    have hun : unS m (Q2.getD k ss0).1 a (Q2.getD k ss0).1.length = true := by simpa using hc21
    have hst := zg hun
    refine aX ?_
    apply k16; clear k16; refine kp [2, 4, 5, 6, 7, 8, 9, 10, 11, 12, 28, 29, 30, 45] ?_
    refine ak hP hN rfl ?_
    iterate 2 (refine aj rfl fun _ k0 => ?_; simp only [zO, zT, acs, reduceCtorEq, aa, V, ad, ag, af, ae, Mly.av, ah, az, bE, Option.map_some, AV.valOf]; (repeat refine And.intro (by first | omega | assumption | exact hks | exact hks0 | exact rfl) ?_); (try refine .inl ?_); apply k0; clear k0; simp only [zP, V])
    refine am ?_
    first
    | (refine ⟨_, _, ?_, aw [2, 4, 5, 6, 7, 8, 28, 29], a + 1, v2, Q2, by omega, hQ2, hk2, (iL hf).trans hst, rfl, rfl⟩
       omega)
    | (refine ⟨_, _, ?_, aw [2, 4, 5, 6, 7, 8, 28, 29], a + 1, v2 + 1, Q2 ++ [(ff m Q2 k a, dV Q2 k a)], by omega, hQ2.snoc hnx.1 (hnx.2.trans hln) (by unfold dV; rw [aq]; simp only [au, aE]; omega) (by omega), by rw [aq]; omega, (iL hf).trans hst, rfl, ?_⟩
       · omega
       · rw [show esB (Q2 ++ [(ff m Q2 k a, dV Q2 k a)]) = _ from (oQ (x := ff m Q2 k a) (w := dV Q2 k a) (eQ hm hnx.1) (fun s h => eQ hm (hQ2.st s h)) hps).symm, List.map_append]; rfl)
   (try simp only [zB, reduceCtorEq] at hc21)
   have hun : unS m (Q2.getD k ss0).1 a (Q2.getD k ss0).1.length = false := by simpa using hc21
   have hun2 : ¬ unS m (Q2.getD k ss0).1 a (Q2.getD k ss0).1.length = true := by rw [hun]; decide
   refine ax ?_
   apply k19; clear k19; refine kp [2, 4, 5, 6, 7, 8, 9, 10, 11, 12, 28, 29, 30, 45] ?_
   refine ai fun _ k22 => ?_
   rw [if_neg hun2]
   refine ak hP hN rfl ?_
   iterate 5 (refine aj rfl fun _ k0 => ?_; simp only [zO, zT, acs, reduceCtorEq, aa, V, ad, ag, af, ae, Mly.av, ah, az, bE, Option.map_some, AV.valOf, hgi]; (repeat refine And.intro (by first | omega | assumption | exact hks | exact hks0 | exact rfl) ?_); (try refine .inl ?_); apply k0; clear k0; simp only [zP, V])
   refine aj rfl fun _ k0 => ?_
   refine aN (h := kV (xp (Q2.getD k ss0).2 (by omega))) rfl rfl (by first | exact rfl | (simp only [ev, zP, aa, V]; exact rfl)) (by simp only [zV, acs, reduceCtorEq, aa, V, ad, ag, af, ae, Mly.av, ah, az, bE, Option.map_some, AV.valOf, hgi]) ?_
   apply k0; clear k0; simp only [zP, V]
   iterate 4 (refine aj rfl fun _ k0 => ?_; simp only [zO, zT, acs, reduceCtorEq, aa, V, ad, ag, af, ae, Mly.av, ah, az, bE, Option.map_some, AV.valOf, hgi]; (repeat refine And.intro (by first | omega | assumption | exact hks | exact hks0 | exact rfl) ?_); (try refine .inl ?_); apply k0; clear k0; simp only [zP, V])
   refine am ?_
   apply k22; clear k22; refine kp [2, 4, 5, 6, 7, 8, 9, 10, 11, 12, 13, 28, 29, 30, 45] ?_
   refine ai fun _ k23 => ?_
   refine ai fun _ k24 => ?_
   refine cO 3 rfl ?_; simp only [aF, bl, zS, aa, and_self, and_true, true_and, and_false, false_and, if_true, if_false, eq_self, reduceCtorEq, Nat.one_ne_zero, Nat.zero_ne_one]
   refine cM (n := 3) (L1 := [_, _, _]) rfl rfl (by rw [hB]; decide) rfl rfl ?_
   refine ak hP hN rfl ?_
   iterate 2 (refine aj rfl fun _ k0 => ?_; simp only [zO, zT, acs, reduceCtorEq, aa, V, ad, ag, af, ae, Mly.av, ah, az, bE, Option.map_some, AV.valOf]; (repeat refine And.intro (by first | omega | assumption | exact hks | exact hks0 | exact rfl) ?_); (try refine .inl ?_); apply k0; clear k0; simp only [zP, V])
   refine am ?_
   apply k24; clear k24; refine kp [2, 4, 5, 6, 7, 8, 9, 10, 11, 12, 13, 28, 29, 30, 45, 56] ?_
   refine cd (fun hc25 => ?_) (fun hc25 => ?_)
   ·(try simp only [zB, reduceCtorEq] at hc25)
    have hsm : smO m (Q2.getD k ss0).1 a (Q2.getD k ss0).1.length = false := by have h9 := hc25; rw [hun] at h9; simpa using h9
    have hfd := wA hrun hkl hQ.le (by omega) hf (by rw [wB hun hsm])
    refine ai fun _ k26 => ?_
    refine ak hP hN rfl ?_
    iterate 3 (refine aj rfl fun _ k0 => ?_; simp only [zO, zT, acs, reduceCtorEq, aa, V, ad, ag, af, ae, Mly.av, ah, az, bE, Option.map_some, AV.valOf]; (repeat refine And.intro (by first | omega | assumption | exact hks | exact hks0 | exact rfl) ?_); (try refine .inl ?_); apply k0; clear k0; simp only [zP, V])
    refine am ?_
    apply k26; clear k26; refine kp [2, 4, 5, 6, 7, 8, 9, 10, 11, 12, 13, 28, 29, 30, 45, 56] ?_
    refine aB ?_
    refine ⟨nr, _, rfl, ?_⟩; simp only [zF, zP, aa, V, Mly.av, ah, az, bE, Option.map_some, AV.valOf]
    rw [hfd]
    first
    | exact VLE.of_eq rfl
    | exact cv ⟨aZ (bz rfl), aZ (.refl _), trivial⟩
   (try simp only [zB, reduceCtorEq] at hc25)
   have hsm : smO m (Q2.getD k ss0).1 a (Q2.getD k ss0).1.length = true := by have h9 := hc25; rw [hun] at h9; simpa using h9
   refine ax ?_
   apply k23; clear k23; refine kp [2, 4, 5, 6, 7, 8, 9, 10, 11, 12, 13, 28, 29, 30, 45, 56] ?_
   refine ai fun _ k27 => ?_
   refine ai fun _ k28 => ?_
   refine ak hP hN rfl ?_
   iterate 2 (refine aj rfl fun _ k0 => ?_; simp only [zO, zT, acs, reduceCtorEq, aa, V, ad, ag, af, ae, Mly.av, ah, az, bE, Option.map_some, AV.valOf, hlk]; (repeat refine And.intro (by first | omega | assumption | exact hks | exact hks0 | exact rfl) ?_); (try refine .inl ?_); apply k0; clear k0; simp only [zP, V])
   refine aj rfl fun _ k0 => ?_
   refine aN (h := aA (oz (cw m (Q2.getD k ss0).1 (a : Int)) (eQ hm hnx.1) (by omega))) rfl rfl (by first | exact rfl | (simp only [ev, zP, aa, V]; exact rfl)) (by simp only [zV, acs, reduceCtorEq, aa, V, ad, ag, af, ae, Mly.av, ah, az, bE, Option.map_some, AV.valOf, hlk]) ?_
   apply k0; clear k0; simp only [zP, V]
   (refine aj rfl fun _ k0 => ?_; simp only [zE, op1, ev, lkp, d5, bQ, jT, bE, VK.ac, reduceCtorEq, aa, V, ad, ag, af, ae, Try.mk115, Try.td4, Mly.av, ah, az, bE, Option.map_some, AV.valOf, hlk]; (repeat refine And.intro (by first | omega | assumption | exact hks | exact hks0 | exact rfl) ?_); (try refine .inl ?_); apply k0; clear k0; simp only [zP, V])
   refine am ?_
   apply k28; clear k28; refine kp [2, 4, 5, 6, 7, 8, 9, 10, 11, 12, 13, 28, 29, 30, 45, 56, 61] ?_
   refine cd (fun hc29 => ?_) (fun hc29 => ?_)
   ·(try simp only [zB, reduceCtorEq] at hc29)
    have hps : dL Q2 (ff m Q2 k a) < Q2.length := by have h9 := hc29; unfold ff; simpa using h9
    have hst := wI hun hsm hps
    refine aX ?_
    apply k16; clear k16; refine kp [2, 4, 5, 6, 7, 8, 9, 10, 11, 12, 13, 28, 29, 30, 45, 56, 61] ?_
    refine ak hP hN rfl ?_
    iterate 2 (refine aj rfl fun _ k0 => ?_; simp only [zO, zT, acs, reduceCtorEq, aa, V, ad, ag, af, ae, Mly.av, ah, az, bE, Option.map_some, AV.valOf]; (repeat refine And.intro (by first | omega | assumption | exact hks | exact hks0 | exact rfl) ?_); (try refine .inl ?_); apply k0; clear k0; simp only [zP, V])
    refine am ?_
    first
    | (refine ⟨_, _, ?_, aw [2, 4, 5, 6, 7, 8, 28, 29], a + 1, v2, Q2, by omega, hQ2, hk2, (iL hf).trans hst, rfl, rfl⟩
       omega)
    | (refine ⟨_, _, ?_, aw [2, 4, 5, 6, 7, 8, 28, 29], a + 1, v2 + 1, Q2 ++ [(ff m Q2 k a, dV Q2 k a)], by omega, hQ2.snoc hnx.1 (hnx.2.trans hln) (by unfold dV; rw [aq]; simp only [au, aE]; omega) (by omega), by rw [aq]; omega, (iL hf).trans hst, rfl, ?_⟩
       · omega
       · rw [show esB (Q2 ++ [(ff m Q2 k a, dV Q2 k a)]) = _ from (oQ (x := ff m Q2 k a) (w := dV Q2 k a) (eQ hm hnx.1) (fun s h => eQ hm (hQ2.st s h)) hps).symm, List.map_append]; rfl)
   (try simp only [zB, reduceCtorEq] at hc29)
   have hps : ¬ dL Q2 (ff m Q2 k a) < Q2.length := by have h9 := hc29; unfold ff; simpa using h9
   refine ax ?_
   apply k27; clear k27; refine kp [2, 4, 5, 6, 7, 8, 9, 10, 11, 12, 13, 28, 29, 30, 45, 56, 61] ?_
   refine ai fun _ k30 => ?_
   refine ai fun _ k31 => ?_
   refine ak hP hN rfl ?_
   iterate 3 (refine aj rfl fun _ k0 => ?_; simp only [zO, zT, acs, reduceCtorEq, aa, V, ad, ag, af, ae, Mly.av, ah, az, bE, Option.map_some, AV.valOf]; (repeat refine And.intro (by first | omega | assumption | exact hks | exact hks0 | exact rfl) ?_); (try refine .inl ?_); apply k0; clear k0; simp only [zP, V])
   refine am ?_
   apply k31; clear k31; refine kp [2, 4, 5, 6, 7, 8, 9, 10, 11, 12, 13, 28, 29, 30, 45, 56, 61, 64] ?_
   refine cd (fun hc32 => ?_) (fun hc32 => ?_)
   ·(try simp only [zB, reduceCtorEq] at hc32)
    have hfd := wA hrun hkl hQ.le (by omega) hf (by rw [wo hun hsm hps (by omega)])
    refine ai fun _ k33 => ?_
    refine ak hP hN rfl ?_
    iterate 2 (refine aj rfl fun _ k0 => ?_; simp only [zO, zT, acs, reduceCtorEq, aa, V, ad, ag, af, ae, Mly.av, ah, az, bE, Option.map_some, AV.valOf]; (repeat refine And.intro (by first | omega | assumption | exact hks | exact hks0 | exact rfl) ?_); (try refine .inl ?_); apply k0; clear k0; simp only [zP, V])
    refine am ?_
    apply k33; clear k33; refine kp [2, 4, 5, 6, 7, 8, 9, 10, 11, 12, 13, 28, 29, 30, 45, 56, 61, 64] ?_
    refine aB ?_
    refine ⟨nr, _, rfl, ?_⟩; simp only [zF, zP, aa, V, Mly.av, ah, az, bE, Option.map_some, AV.valOf]
    rw [hfd]
    first
    | exact VLE.of_eq rfl
    | exact cv ⟨aZ (bz rfl), aZ (.refl _), trivial⟩
   (try simp only [zB, reduceCtorEq] at hc32)
   have hst := vP hun hsm hps (by omega)
   refine ax ?_
   apply k30; clear k30; refine kp [2, 4, 5, 6, 7, 8, 9, 10, 11, 12, 13, 28, 29, 30, 45, 56, 61, 64] ?_
   refine ai fun _ k34 => ?_
   refine ak hP hN rfl ?_
   iterate 2 (refine aj rfl fun _ k0 => ?_; simp only [zO, zT, acs, reduceCtorEq, aa, V, ad, ag, af, ae, Mly.av, ah, az, bE, Option.map_some, AV.valOf]; (repeat refine And.intro (by first | omega | assumption | exact hks | exact hks0 | exact rfl) ?_); (try refine .inl ?_); apply k0; clear k0; simp only [zP, V])
   refine aj rfl fun _ k0 => ?_
   refine aN (h := aA (oz (cw m (Q2.getD k ss0).1 (a : Int)) (eQ hm hnx.1) (by omega))) rfl rfl (by first | exact rfl | (simp only [ev, zP, aa, V]; exact rfl)) (by simp only [zV, acs, reduceCtorEq, aa, V, ad, ag, af, ae, Mly.av, ah, az, bE, Option.map_some, AV.valOf]) ?_
   apply k0; clear k0; simp only [zP, V]
   (refine aj rfl fun _ k0 => ?_; simp only [zE, op1, ev, lkp, d5, bQ, et, bE, valOf, reduceCtorEq, aa, V, ad, ag, af, ae, Try.mk115, Mly.av, ah, az, bE, Option.map_some, AV.valOf]; (repeat refine And.intro (by first | omega | assumption | exact hks | exact hks0 | exact rfl) ?_); (try refine .inl ?_); apply k0; clear k0; simp only [zP, V])
   refine am ?_
   apply k34; clear k34; refine kp [2, 4, 5, 6, 7, 8, 9, 10, 11, 12, 13, 28, 29, 30, 45, 56, 61, 64] ?_
   refine ak hP hN rfl ?_
   iterate 7 (refine aj rfl fun _ k0 => ?_; simp only [zO, zT, acs, reduceCtorEq, aa, V, ad, ag, af, ae, Mly.av, ah, az, bE, Option.map_some, AV.valOf]; (repeat refine And.intro (by first | omega | assumption | exact hks | exact hks0 | exact rfl) ?_); (try refine .inl ?_); apply k0; clear k0; simp only [zP, V])
   refine am ?_
   apply k16; clear k16; refine kp [2, 4, 5, 6, 7, 8, 9, 10, 11, 12, 13, 28, 29, 30, 45, 56, 61, 64] ?_
   refine ak hP hN rfl ?_
   iterate 2 (refine aj rfl fun _ k0 => ?_; simp only [zO, zT, acs, reduceCtorEq, aa, V, ad, ag, af, ae, Mly.av, ah, az, bE, Option.map_some, AV.valOf]; (repeat refine And.intro (by first | omega | assumption | exact hks | exact hks0 | exact rfl) ?_); (try refine .inl ?_); apply k0; clear k0; simp only [zP, V])
   refine am ?_
   first
   | (refine ⟨_, _, ?_, aw [2, 4, 5, 6, 7, 8, 28, 29], a + 1, v2, Q2, by omega, hQ2, hk2, (iL hf).trans hst, rfl, rfl⟩
      omega)
   | (refine ⟨_, _, ?_, aw [2, 4, 5, 6, 7, 8, 28, 29], a + 1, v2 + 1, Q2 ++ [(ff m Q2 k a, dV Q2 k a)], by omega, hQ2.snoc hnx.1 (hnx.2.trans hln) (by unfold dV; rw [aq]; simp only [au, aE]; omega) (by omega), by rw [aq]; omega, (iL hf).trans hst, rfl, ?_⟩
      · omega
      · rw [show esB (Q2 ++ [(ff m Q2 k a, dV Q2 k a)]) = _ from (oQ (x := ff m Q2 k a) (w := dV Q2 k a) (eQ hm hnx.1) (fun s h => eQ hm (hQ2.st s h)) hps).symm, List.map_append]; rfl)
  (try simp only [zB, reduceCtorEq] at hc15)
  refine aX ?_
  apply k10; clear k10; refine kp [2, 4, 5, 6, 7, 8, 28, 29, 30] ?_
  refine ak hP hN rfl ?_
  iterate 3 (refine aj rfl fun _ k0 => ?_; simp only [zO, zT, acs, reduceCtorEq, aa, V, ad, ag, af, ae, Mly.av, ah, az, bE, Option.map_some, AV.valOf]; (repeat refine And.intro (by first | omega | assumption | exact hks | exact hks0 | exact rfl) ?_); (try refine .inl ?_); apply k0; clear k0; simp only [zP, V])
  refine am ?_
  refine ⟨_, _, ?_, aw [2, 4, 5, 6, 7, 8], k + 1, v2, Q2, hQ2, A3 hrun hkl hQ.le (by rw [show m.inp.toNat = a by omega]; exact hf), rfl, rfl⟩
  have := hQ.le
  omega
 (try simp only [zB, reduceCtorEq] at hc9)
 refine aX ?_
 apply k4; clear k4; refine kp [2, 4, 5, 6, 7, 8, 24] ?_
 refine ai fun _ k35 => ?_
 have hfd := AR hrun (by omega)
 refine ak hP hN rfl ?_
 iterate 2 (refine aj rfl fun _ k0 => ?_; simp only [zO, zT, acs, reduceCtorEq, aa, V, ad, ag, af, ae, Mly.av, ah, az, bE, Option.map_some, AV.valOf]; (repeat refine And.intro (by first | omega | assumption | exact hks | exact hks0 | exact rfl) ?_); (try refine .inl ?_); apply k0; clear k0; simp only [zP, V])
 refine am ?_
 apply k35; clear k35; refine kp [2, 4, 5, 6, 7, 8, 24] ?_
 refine aB ?_
 refine ⟨nr, _, rfl, ?_⟩; simp only [zF, zP, aa, V, Mly.av, ah, az, bE, Option.map_some, AV.valOf]
 rw [hfd]
 first
 | exact VLE.of_eq rfl
 | exact cv ⟨aZ (bz rfl), aZ (.refl _), trivial⟩
theorem vQ (x : Int) : bZ Try.prog 100 [.one (.int .i64 x)] (.one (.bool (w8 x))) := by
 refine aU Try.func100 rfl (by kernel_rfl) (Nat.le_of_ble_eq_true rfl) rfl fun C hP hN hB => ?_
 replace hN : C.N = 6 := hN
 simp only [bg, V]
 refine ai fun _ k1 => ?_
 refine ak hP hN rfl ?_
 (refine aj rfl fun _ k0 => ?_; simp only [zO, zT, acs, reduceCtorEq, aa, V, ad, ag, af, ae]; (repeat refine an ?_); (try refine .inl ?_); apply k0; clear k0; simp only [zP, V])
 refine am ?_
 apply k1; clear k1; refine kp [0, 2] ?_
 refine ai fun _ k2 => ?_
 refine ak hP hN rfl ?_
 iterate 4 (refine aj rfl fun _ k0 => ?_; simp only [zO, zT, acs, reduceCtorEq, aa, V, ad, ag, af, ae]; (repeat refine an ?_); (try refine .inl ?_); apply k0; clear k0; simp only [zP, V])
 refine am ?_
 apply k2; clear k2; refine kp [0, 2] ?_
 refine aB ?_
 refine ⟨nr, _, rfl, ?_⟩; simp only [zF, zP, aa, V]
 refine VLE.of_eq ?_
 rw [o8]
theorem A8 (x y : Int) : bZ Try.prog 85 [.one (.int .i64 x), .one (.int .i64 y)] (.one (.bool (decide (x < y)))) := by
 refine aU Try.func85 rfl (by kernel_rfl) (Nat.le_of_ble_eq_true rfl) rfl fun C hP hN hB => ?_
 replace hN : C.N = 17 := hN
 simp only [bg, V]
 refine ai fun _ k1 => ?_
 refine ak hP hN rfl ?_
 (refine aj rfl fun _ k0 => ?_; simp only [zO, zT, acs, reduceCtorEq, aa, V, ad, ag, af, ae]; (repeat refine an ?_); (try refine .inl ?_); apply k0; clear k0; simp only [zP, V])
 refine am ?_
 apply k1; clear k1; refine kp [0, 1, 4] ?_
 refine ai fun _ k2 => ?_
 refine ak hP hN rfl ?_
 (refine aj rfl fun _ k0 => ?_; simp only [zO, zT, acs, reduceCtorEq, aa, V, ad, ag, af, ae]; (repeat refine an ?_); (try refine .inl ?_); apply k0; clear k0; simp only [zP, V])
 refine aj rfl fun _ k0 => ?_
 refine aN (h := aA (vQ x)) rfl rfl (by first | exact rfl | (simp only [ev, zP, aa, V]; exact rfl)) (by simp only [zV, acs, reduceCtorEq, aa, V, ad, ag, af, ae]) ?_
 apply k0; clear k0; simp only [zP, V]
 (refine aj rfl fun _ k0 => ?_; simp only [zO, zT, acs, reduceCtorEq, aa, V, ad, ag, af, ae]; (repeat refine an ?_); (try refine .inl ?_); apply k0; clear k0; simp only [zP, V])
 refine' aP (want := true) 3 rfl (m := 7) (by simp only [zP, aa, V]; exact rfl) (by kernel_rfl) rfl rfl rfl rfl rfl (fun hg3 => ?a3) ?b3 ?c3
 case a3 =>
  have hq3 := hg3; (try simp only [zB, reduceCtorEq] at hg3); simp only [zE]
  (refine bf rfl fun _ k0 => ?_; simp only [zO, zT, acs, reduceCtorEq, aa, V, ad, ag, af, ae]; (repeat refine an ?_); (try refine .inl ?_); apply k0; clear k0; simp only [zP, V])
  refine bf rfl fun _ k0 => ?_
  refine aN (h := aA (vQ y)) rfl rfl (by first | exact rfl | (simp only [ev, zP, aa, V]; exact rfl)) (by simp only [zV, acs, reduceCtorEq, aa, V, ad, ag, af, ae]) ?_
  apply k0; clear k0; simp only [zP, V]
  (refine bf rfl fun _ k0 => ?_; simp only [zO, zT, acs, reduceCtorEq, aa, V, ad, ag, af, ae]; (repeat refine an ?_); (try refine .inl ?_); apply k0; clear k0; simp only [zP, V])
  (refine aj rfl fun _ k0 => ?_; simp only [zO, zT, acs, reduceCtorEq, aa, V, ad, ag, af, ae]; (repeat refine an ?_); (try refine .inl ?_); apply k0; clear k0; simp only [zP, V])
  refine am ?_
  refine ⟨by simp only [zP, aa, V]; exact rfl, rfl, ?_, rfl⟩; (repeat refine aQ rfl ?_); exact bn (by exact rfl) hq3
 case b3 => exact cq
 simp only [b7, aT]
 (refine aj rfl fun _ k0 => ?_; simp only [zO, zT, acs, reduceCtorEq, aa, V, ad, ag, af, ae]; (repeat refine an ?_); (try refine .inl ?_); apply k0; clear k0; simp only [zP, V])
 refine' aP (want := false) 3 rfl (m := 12) (by simp only [zP, aa, V]; exact rfl) (by kernel_rfl) rfl rfl rfl rfl rfl (fun hg4 => ?a4) ?b4 ?c4
 case a4 =>
  have hq4 := hg4; (try simp only [zB, reduceCtorEq] at hg4); simp only [zE]
  iterate 3 (refine bf rfl fun _ k0 => ?_; simp only [zO, zT, acs, reduceCtorEq, aa, V, ad, ag, af, ae]; (repeat refine an ?_); (try refine .inl ?_); apply k0; clear k0; simp only [zP, V])
  (refine aj rfl fun _ k0 => ?_; simp only [zO, zT, acs, reduceCtorEq, aa, V, ad, ag, af, ae]; (repeat refine an ?_); (try refine .inl ?_); apply k0; clear k0; simp only [zP, V])
  refine am ?_
  refine ⟨by simp only [zP, aa, V]; exact rfl, rfl, ?_, rfl⟩; (repeat refine aQ rfl ?_); exact bn (by exact rfl) hq4
 case b4 => exact cq
 simp only [b7, aT]
 (refine aj rfl fun _ k0 => ?_; simp only [zO, zT, acs, reduceCtorEq, aa, V, ad, ag, af, ae]; (repeat refine an ?_); (try refine .inl ?_); apply k0; clear k0; simp only [zP, V])
 refine am ?_
 apply k2; clear k2; refine kp [0, 1, 4] ?_
 refine aB ?_
 refine ⟨nr, _, rfl, ?_⟩; simp only [zF, zP, aa, V]
 refine VLE.of_eq ?_
 refine congrArg (fun b => AV.one (AC.bool b)) ?_
 simp [o8]
theorem wu (x : Int) : bZ Try.prog 86 [.one (.int .i64 x)] (.one (.bool (w8 x))) := by
 refine aU Try.func86 rfl (by kernel_rfl) (Nat.le_of_ble_eq_true rfl) rfl fun C hP hN hB => ?_
 replace hN : C.N = 6 := hN
 simp only [bg, V]
 refine ai fun _ k1 => ?_
 refine ak hP hN rfl ?_
 (refine aj rfl fun _ k0 => ?_; simp only [zO, zT, acs, reduceCtorEq, aa, V, ad, ag, af, ae]; (repeat refine an ?_); (try refine .inl ?_); apply k0; clear k0; simp only [zP, V])
 refine am ?_
 apply k1; clear k1; refine kp [0, 2] ?_
 refine ai fun _ k2 => ?_
 refine ak hP hN rfl ?_
 iterate 4 (refine aj rfl fun _ k0 => ?_; simp only [zO, zT, acs, reduceCtorEq, aa, V, ad, ag, af, ae]; (repeat refine an ?_); (try refine .inl ?_); apply k0; clear k0; simp only [zP, V])
 refine am ?_
 apply k2; clear k2; refine kp [0, 2] ?_
 refine aB ?_
 refine ⟨nr, _, rfl, ?_⟩; simp only [zF, zP, aa, V]
 refine VLE.of_eq ?_
 rw [o8]
end Go.Proofs.Ytoahhklogohehaa
