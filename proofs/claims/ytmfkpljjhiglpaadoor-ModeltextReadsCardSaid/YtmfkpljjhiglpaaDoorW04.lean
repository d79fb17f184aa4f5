/- Contracts of functions of this seat, each out of a walk through its code, and plain facts on what they compute. Conditions: those that each theorem names. -/
import Derived.Test.YtmfkpljjhiglpaaDoorW03
set_option linter.unusedSimpArgs false
set_option linter.unusedVariables false
set_option maxRecDepth 100000
namespace Go.Proofs.YtmfkpljjhiglpaaDoor
open Go Go.AV
open Nat renaming reduceEqDiff → O, reduceAdd → M, reduceLeDiff → V, reduceLT → aa, reduceMul → Z, reduceSub → Y
open List renaming set_cons_zero → bu, set_cons_succ → aX, getD_cons_zero → cJ, length_append → ah, map_cons → aS, cons_append → ak, map_nil → bo, length_cons → aj, nil_append → ar, take_succ_cons → cj, length_nil → aq, length_map → bY, length_replicate → aI, take_length → aF, mem_cons_self → aQ, mem_cons_of_mem → aC
open Int renaming toNat_natCast → aE
set_option maxHeartbeats 2000000 in
theorem kK {g : Nat} {o : Obj} (hpw : POW Tryd.prog g o) (x : Mdl) : cH Tryd.prog [.fact g o] 9 [x.av] { av := .tup [.one (.str (SM x)), .one (.int .i64 (mvE x))], fp := [0] } := by
 refine dn _ _ Tryd.func9 rfl (by kernel_rfl) (Nat.le_of_ble_eq_true rfl) (by intro k hk; simp only [aj, aq, Nat.zero_add, M] at hk; simp only [List.mem_cons, List.not_mem_nil, or_false]; omega) (fun C hP hN hB => ?_)
 replace hB : C.bL.length = 1 := by rw [hB]; rfl
 replace hN : C.N = 110 := hN
 simp only [aV, M]
 refine ad fun _ k1 => ?_
 refine ag hP hN rfl ?_
 iterate 3 (refine ab rfl fun _ k0 => ?_; simp only [zO, zT, acs, reduceCtorEq, O, M, V, aa, Z, Y, Mdl.av, Mdl.cs]; (repeat refine an ?_); (try refine .inl ?_); apply k0; clear k0; simp only [zP, M])
 refine af ?_
 apply k1; clear k1; refine kp [0, 1, 2, 3] ?_
 refine ad fun _ k2 => ?_
 refine ad fun _ k3 => ?_
 refine ag hP hN rfl ?_
 (refine ab rfl fun _ k0 => ?_; simp only [zO, zT, acs, reduceCtorEq, O, M, V, aa, Z, Y, Mdl.av, Mdl.cs]; (repeat refine an ?_); (try refine .inl ?_); apply k0; clear k0; simp only [zP, M])
 refine ab rfl fun _ k0 => ?_
 refine aw (h := am (i9 x)) rfl rfl (by first | exact rfl | (simp only [ev, zP, O, M]; exact rfl)) (by simp only [zV, acs, reduceCtorEq, O, M, V, aa, Z, Y, Mdl.av, Mdl.cs]) ?_
 apply k0; clear k0; simp only [zP, M]
 (refine ab rfl fun _ k0 => ?_; simp only [zO, zT, acs, reduceCtorEq, O, M, V, aa, Z, Y, Mdl.av, Mdl.cs]; (repeat refine an ?_); (try refine .inl ?_); apply k0; clear k0; simp only [zP, M])
 refine af ?_
 apply k3; clear k3; refine kp [0, 1, 2, 3, 4] ?_
 refine ad fun _ k4 => ?_
 refine ag hP hN rfl ?_
 iterate 2 (refine ab rfl fun _ k0 => ?_; simp only [zO, zT, acs, reduceCtorEq, O, M, V, aa, Z, Y, Mdl.av, Mdl.cs]; (repeat refine an ?_); (try refine .inl ?_); apply k0; clear k0; simp only [zP, M])
 refine af ?_
 apply k4; clear k4; refine kp [0, 1, 2, 3, 4, 15] ?_
 refine cd (fun hc5 => ?_) (fun hc5 => ?_)
 ·(try simp only [zB, reduceCtorEq] at hc5)
  refine ad fun _ k6 => ?_
  refine ag hP hN rfl ?_
  iterate 3 (refine ab rfl fun _ k0 => ?_; simp only [zO, zT, acs, reduceCtorEq, O, M, V, aa, Z, Y, Mdl.av, Mdl.cs]; (repeat refine an ?_); (try refine .inl ?_); apply k0; clear k0; simp only [zP, M])
  refine af ?_
  apply k6; clear k6; refine kp [0, 1, 2, 3, 4, 15] ?_
  refine kp [2, 3] ?_
  first
  | ((refine bJ (L1 := [_, _, _]) rfl (by rw [hB]; exact Nat.succ_le_succ (Nat.zero_le _)) rfl rfl ?_); (refine bJ (L1 := [_, _]) rfl (by rw [hB]; exact Nat.succ_le_succ (Nat.zero_le _)) rfl rfl ?_); (refine bJ (L1 := [_]) rfl (by rw [hB]; exact Nat.succ_le_succ (Nat.zero_le _)) rfl rfl ?_))
  | (refine bJ (L1 := [_]) rfl (by rw [hB]; exact Nat.succ_le_succ (Nat.zero_le _)) rfl rfl ?_)
  refine au ?_
  refine ⟨by first | exact .inl rfl | exact .inr rfl, _, rfl, ?_⟩; simp only [zP, O, M, Mdl.av, Mdl.cs]
  first | (rw [ke (by assumption)]; done) | (rw [i3 (by assumption), ‹mvE x = 0›]; done)
 (try simp only [zB, reduceCtorEq] at hc5)
 have hv0 : mvE x = 0 := by omega
 have hv := iS hv0; have hm := hv.mo; have hol := hm.ol; have hi1 := hm.i1; have hi2 := hm.i2; have hn1 := hm.n1; have hn2 := hm.n2; have hs1 := hm.s1; have hs2 := hm.s2; have hil := hv.il; have hon := hv.ao.n1
 refine ax ?_
 apply k2; clear k2; refine kp [0, 1, 2, 3, 4, 15] ?_
 refine ad fun _ k7 => ?_
 refine ag hP hN rfl ?_
 (refine ab rfl fun _ k0 => ?_; simp only [zO, zT, acs, reduceCtorEq, O, M, V, aa, Z, Y, Mdl.av, Mdl.cs]; (repeat refine an ?_); (try refine .inl ?_); apply k0; clear k0; simp only [zP, M])
 refine af ?_
 apply k7; clear k7; refine kp [0, 1, 2, 3, 4, 5, 15] ?_
 refine ad fun _ k8 => ?_
 refine ad fun _ k9 => ?_
 refine ag hP hN rfl ?_
 iterate 5 (refine ab rfl fun _ k0 => ?_; simp only [zO, zT, acs, reduceCtorEq, O, M, V, aa, Z, Y, Mdl.av, Mdl.cs]; (repeat refine an ?_); (try refine .inl ?_); apply k0; clear k0; simp only [zP, M])
 refine af ?_
 apply k9; clear k9; refine kp [0, 1, 2, 3, 4, 5, 15, 20, 21] ?_
 refine aG ?_
 refine lH 5 .str 9 (by decide) rfl ?_; simp only [aj, aq, ak, ar, Nat.zero_add, M]
 refine bD (fun n10 s10 => ∃ (k : Nat) (u : Nat), (k ≤ x.m.nx.length) ∧ n10 = x.m.nx.length - k ∧ s10 = { env := [(1, .one (.ptr 1 0 0 0)), (2, .one (.str [])), (3, .one (.int .i64 0)), (5, .one (.row 2 u)), (20, .one (.int .i64 (x.m.nx.length : Int))), (21, .one (.int .i64 (k : Int)))], L := [.fact g o, .vars 29 [.str x.nm, .list .str x.ins, .list .str x.outs, .int .i64 x.m.inp, .int .i64 x.m.st, .list (.list (.int .i64)) x.m.nx, .list (.list (.int .i64)) x.m.ot], .row .str 9 u (qs k)] }) ?_ ?_
 ·exact ⟨_, _, aL [1, 2, 3, 5, 20, 21], 0, 0, Nat.zero_le _, rfl, rfl⟩
 rintro n10 s10 ⟨k, u, hk, rfl, rfl⟩
 refine ad fun _ k11 => ?_
 refine ag hP hN rfl ?_
 (refine ab rfl fun _ k0 => ?_; simp only [zO, zT, acs, reduceCtorEq, O, M, V, aa, Z, Y, Mdl.av, Mdl.cs]; (repeat refine an ?_); (try refine .inl ?_); apply k0; clear k0; simp only [zP, M])
 refine af ?_
 apply k11; clear k11; refine kp [1, 2, 3, 5, 20, 21, 22] ?_
 refine ad fun _ k12 => ?_
 refine cd (fun hc13 => ?_) (fun hc13 => ?_)
 ·(try simp only [zB, reduceCtorEq] at hc13)
  refine ax ?_
  apply k12; clear k12; refine kp [1, 2, 3, 5, 20, 21, 22] ?_
  refine ad fun _ k14 => ?_
  refine aG ?_
  refine ad fun _ k15 => ?_
  refine ag hP hN rfl ?_
  iterate 2 (refine ab rfl fun _ k0 => ?_; simp only [zO, zT, acs, reduceCtorEq, O, M, V, aa, Z, Y, Mdl.av, Mdl.cs]; (repeat refine an ?_); (try refine .inl ?_); apply k0; clear k0; simp only [zP, M])
  refine af ?_
  apply k15; clear k15; refine kp [1, 2, 3, 5, 6, 20, 21, 22] ?_
  refine ag hP hN rfl ?_
  iterate 2 (refine ab rfl fun _ k0 => ?_; simp only [zO, zT, acs, reduceCtorEq, O, M, V, aa, Z, Y, Mdl.av, Mdl.cs, ca]; (repeat refine an ?_); (try refine .inl ?_); apply k0; clear k0; simp only [zP, M])
  refine ab rfl fun _ k0 => ?_
  refine aw (h := eG (jM hpw (k : Int) (by omega) (by omega)) rfl) rfl rfl (by first | exact rfl | (simp only [ev, zP, O, M]; exact rfl)) (by simp only [zV, acs, reduceCtorEq, O, M, V, aa, Z, Y, Mdl.av, Mdl.cs, ca]) ?_
  apply k0; clear k0; simp only [zP, M]
  iterate 3 (refine ab rfl fun _ k0 => ?_; simp only [zO, zT, acs, reduceCtorEq, O, M, V, aa, Z, Y, Mdl.av, Mdl.cs, ca]; (repeat refine an ?_); (try refine .inl ?_); apply k0; clear k0; simp only [zP, M])
  refine af ?_
  apply k14; clear k14; refine kp [1, 2, 3, 5, 6, 20, 21, 22] ?_
  refine ag hP hN rfl ?_
  iterate 2 (refine ab rfl fun _ k0 => ?_; simp only [zO, zT, acs, reduceCtorEq, O, M, V, aa, Z, Y, Mdl.av, Mdl.cs]; (repeat refine an ?_); (try refine .inl ?_); apply k0; clear k0; simp only [zP, M])
  refine af ?_
  refine ⟨_, _, ?_, aL [1, 2, 3, 5, 20, 21], k + 1, u + 1, by omega, rfl, by rw [oI]; rfl⟩
  omega
 (try simp only [zB, reduceCtorEq] at hc13)
 refine bC ?_
 apply k8; clear k8; refine kp [1, 2, 3, 5, 20, 21, 22] ?_
 refine ad fun _ k16 => ?_
 obtain rfl : k = x.m.nx.length := by omega
 refine eY 2 rfl ?_; simp only [aS, bo, zS, O, and_self, and_true, true_and, and_false, false_and, if_true, if_false, eq_self, reduceCtorEq, Nat.one_ne_zero, Nat.zero_ne_one]
 refine mP ?_; simp only [ak, List.append_assoc, ar]
 have hj1 := dz hv ([105, 110, 112, 117, 116, 115, 32] ++ Lib.join x.ins [32]) (by simp [hdT])
 have hj2 := dz hv ([111, 117, 116, 112, 117, 116, 115, 32] ++ Lib.join x.outs [32]) (by simp [hdT])
 have hj3 := dz hv ([115, 116, 97, 116, 101, 115, 32] ++ Lib.join (qs x.m.nx.length) [32]) (by simp [hdT])
 have hj4 := dz hv ([115, 116, 97, 114, 116, 32] ++ qn x.m.st.toNat) (by simp [hdT])
 have hj5 := (cT hv.nm).2.2
 have hj6 := ca x.m.nx.length
 simp only [ah, aj, aq] at hj1 hj2 hj3 hj4
 refine cm hP hN Tryd.mixed rfl ?_
 iterate 6 (refine ab rfl fun _ k0 => ?_; simp only [zO, zT, acs, reduceCtorEq, O, M, V, aa, Z, Y, Mdl.av, Mdl.cs, ah, aj, aq]; (repeat refine an ?_); (try refine .inl ?_); apply k0; clear k0; simp only [zP, M])
 refine ab rfl fun _ k0 => ?_
 refine aw (h := am (cW x.ins [32] (by omega) (by omega))) rfl rfl (by first | exact rfl | (simp only [ev, zP, O, M]; exact rfl)) (by simp only [zV, acs, reduceCtorEq, O, M, V, aa, Z, Y, Mdl.av, Mdl.cs, ah, aj, aq]) ?_
 apply k0; clear k0; simp only [zP, M]
 iterate 4 (refine ab rfl fun _ k0 => ?_; simp only [zO, zT, acs, reduceCtorEq, O, M, V, aa, Z, Y, Mdl.av, Mdl.cs, ah, aj, aq]; (repeat refine an ?_); (try refine .inl ?_); apply k0; clear k0; simp only [zP, M])
 refine ab rfl fun _ k0 => ?_
 refine aw (h := am (cW x.outs [32] (by omega) (by omega))) rfl rfl (by first | exact rfl | (simp only [ev, zP, O, M]; exact rfl)) (by simp only [zV, acs, reduceCtorEq, O, M, V, aa, Z, Y, Mdl.av, Mdl.cs, ah, aj, aq]) ?_
 apply k0; clear k0; simp only [zP, M]
 iterate 2 (refine ab rfl fun _ k0 => ?_; simp only [zO, zT, acs, reduceCtorEq, O, M, V, aa, Z, Y, Mdl.av, Mdl.cs, ah, aj, aq]; (repeat refine an ?_); (try refine .inl ?_); apply k0; clear k0; simp only [zP, M])
 refine ab rfl fun _ k0 => ?_
 refine aw (h := am (cW (qs x.m.nx.length) [32] (by omega) (by omega))) rfl rfl (by first | exact rfl | (simp only [ev, zP, O, M]; exact rfl)) (by simp only [zV, acs, reduceCtorEq, O, M, V, aa, Z, Y, Mdl.av, Mdl.cs, ah, aj, aq]) ?_
 apply k0; clear k0; simp only [zP, M]
 iterate 4 (refine ab rfl fun _ k0 => ?_; simp only [zO, zT, acs, reduceCtorEq, O, M, V, aa, Z, Y, Mdl.av, Mdl.cs, ah, aj, aq]; (repeat refine an ?_); (try refine .inl ?_); apply k0; clear k0; simp only [zP, M])
 refine ab rfl fun _ k0 => ?_
 refine aw (h := eG (jM hpw x.m.st (by omega) (by omega)) rfl) rfl rfl (by first | exact rfl | (simp only [ev, zP, O, M]; exact rfl)) (by simp only [zV, acs, reduceCtorEq, O, M, V, aa, Z, Y, Mdl.av, Mdl.cs, ah, aj, aq]) ?_
 apply k0; clear k0; simp only [zP, M]
 (refine ab rfl fun _ k0 => ?_; simp only [zO, zT, acs, reduceCtorEq, O, M, V, aa, Z, Y, Mdl.av, Mdl.cs, ah, aj, aq]; (repeat refine an ?_); (try refine .inl ?_); apply k0; clear k0; simp only [zP, M])
 (refine ab rfl fun _ k0 => ?_; simp only [zO, zT, acs, reduceCtorEq, O, M, V, aa, Z, Y, Mdl.av, Mdl.cs, ah, aj, aq]; (repeat refine an ?_); refine Or.inr (Or.inr (Or.inl ⟨3, by exact rfl, ?_⟩)); refine k0 _ ?_; clear k0; simp only [zP, M])
 (refine ab rfl fun _ k0 => ?_; simp only [zO, zT, acs, reduceCtorEq, O, M, V, aa, Z, Y, Mdl.av, Mdl.cs, ah, aj, aq]; (repeat refine an ?_); (try refine .inl ?_); apply k0; clear k0; simp only [zP, M])
 refine af ?_
 refine ⟨by kernel_rfl, ?_⟩
 apply k16; clear k16; refine kp [1, 2, 3, 5, 7, 20, 21, 22] ?_
 refine ad fun _ k17 => ?_
 refine ad fun _ k18 => ?_
 refine ag hP hN rfl ?_
 iterate 5 (refine ab rfl fun _ k0 => ?_; simp only [zO, zT, acs, reduceCtorEq, O, M, V, aa, Z, Y, Mdl.av, Mdl.cs]; (repeat refine an ?_); (try refine .inl ?_); apply k0; clear k0; simp only [zP, M])
 refine af ?_
 apply k18; clear k18; refine kp [1, 2, 3, 5, 7, 20, 21, 22, 54, 55, 56] ?_
 refine aG ?_
 refine bD (fun n19 s19 => ∃ (s : Nat) (v : Nat), (s ≤ x.m.nx.length) ∧ n19 = x.m.nx.length - s ∧ s19 = { env := [(1, .one (.ptr 1 0 0 0)), (2, .one (.str [])), (3, .one (.int .i64 0)), (5, .one (.list .str (qs x.m.nx.length))), (7, .one (.row 3 v)), (54, .one (.list (.list (.int .i64)) x.m.nx)), (55, .one (.int .i64 (x.m.nx.length : Int))), (56, .one (.int .i64 (s : Int)))], L := [.fact g o, .vars 29 [.str x.nm, .list .str x.ins, .list .str x.outs, .int .i64 x.m.inp, .int .i64 x.m.st, .list (.list (.int .i64)) x.m.nx, .list (.list (.int .i64)) x.m.ot], .dead u, .row .str 9 v (hdT x ++ dh x s)] }) ?_ ?_
 ·exact ⟨_, _, aL [1, 2, 3, 5, 7, 54, 55, 56], 0, 1, Nat.zero_le _, rfl, by simp only [dh, List.range_zero, bo, List.flatten_nil, List.append_nil]; rfl⟩
 rintro n19 s19 ⟨s, v, hs, rfl, rfl⟩
 refine ad fun _ k20 => ?_
 refine ag hP hN rfl ?_
 (refine ab rfl fun _ k0 => ?_; simp only [zO, zT, acs, reduceCtorEq, O, M, V, aa, Z, Y, Mdl.av, Mdl.cs]; (repeat refine an ?_); (try refine .inl ?_); apply k0; clear k0; simp only [zP, M])
 refine af ?_
 apply k20; clear k20; refine kp [1, 2, 3, 5, 7, 54, 55, 56, 57] ?_
 refine ad fun _ k21 => ?_
 refine cd (fun hc22 => ?_) (fun hc22 => ?_)
 ·(try simp only [zB, reduceCtorEq] at hc22)
  refine ax ?_
  apply k21; clear k21; refine kp [1, 2, 3, 5, 7, 54, 55, 56, 57] ?_
  refine ad fun _ k23 => ?_
  refine aG ?_
  refine ad fun _ k24 => ?_
  have hrl := hm.rl s (by omega)
  refine ag hP hN rfl ?_
  iterate 5 (refine ab rfl fun _ k0 => ?_; simp only [zO, zT, acs, reduceCtorEq, O, M, V, aa, Z, Y, Mdl.av, Mdl.cs]; (repeat refine an ?_); (try refine .inl ?_); apply k0; clear k0; simp only [zP, M])
  refine af ?_
  apply k24; clear k24; refine kp [1, 2, 3, 5, 7, 8, 9, 54, 55, 56, 57] ?_
  refine ad fun _ k25 => ?_
  refine ag hP hN rfl ?_
  iterate 3 (refine ab rfl fun _ k0 => ?_; simp only [zO, zT, acs, reduceCtorEq, O, M, V, aa, Z, Y, Mdl.av, Mdl.cs]; (repeat refine an ?_); (try refine .inl ?_); apply k0; clear k0; simp only [zP, M])
  refine af ?_
  apply k25; clear k25; refine kp [1, 2, 3, 5, 7, 8, 9, 54, 55, 56, 57, 61, 62, 63] ?_
  refine aG ?_
  refine bD (fun n26 s26 => ∃ (j : Nat) (v : Nat), (j ≤ (x.m.nx.getD s []).length) ∧ n26 = (x.m.nx.getD s []).length - j ∧ s26 = { env := [(1, .one (.ptr 1 0 0 0)), (2, .one (.str [])), (3, .one (.int .i64 0)), (5, .one (.list .str (qs x.m.nx.length))), (7, .one (.row 3 v)), (8, .one (.int .i64 (s : Int))), (9, .one (.list (.int .i64) (x.m.nx.getD s []))), (54, .one (.list (.list (.int .i64)) x.m.nx)), (55, .one (.int .i64 (x.m.nx.length : Int))), (56, .one (.int .i64 (s : Int))), (57, .one (.bool (decide ((s : Int) < x.m.nx.length)))), (61, .one (.list (.int .i64) (x.m.nx.getD s []))), (62, .one (.int .i64 ((x.m.nx.getD s []).length : Int))), (63, .one (.int .i64 (j : Int)))], L := [.fact g o, .vars 29 [.str x.nm, .list .str x.ins, .list .str x.outs, .int .i64 x.m.inp, .int .i64 x.m.st, .list (.list (.int .i64)) x.m.nx, .list (.list (.int .i64)) x.m.ot], .dead u, .row .str 9 v (hdT x ++ dh x s ++ dN x s j)] }) ?_ ?_
  ·exact ⟨_, _, aL [1, 2, 3, 5, 7, 8, 9, 54, 55, 56, 57, 61, 62, 63], 0, v, Nat.zero_le _, rfl, by simp only [dN, List.range_zero, bo, List.append_nil]; rfl⟩
  rintro n26 s26 ⟨j, v, hj, rfl, rfl⟩
  refine ad fun _ k27 => ?_
  refine ag hP hN rfl ?_
  (refine ab rfl fun _ k0 => ?_; simp only [zO, zT, acs, reduceCtorEq, O, M, V, aa, Z, Y, Mdl.av, Mdl.cs]; (repeat refine an ?_); (try refine .inl ?_); apply k0; clear k0; simp only [zP, M])
  refine af ?_
  apply k27; clear k27; refine kp [1, 2, 3, 5, 7, 8, 9, 54, 55, 56, 57, 61, 62, 63, 64] ?_
  refine ad fun _ k28 => ?_
  refine cd (fun hc29 => ?_) (fun hc29 => ?_)
  ·(try simp only [zB, reduceCtorEq] at hc29)
   refine ax ?_
   apply k28; clear k28; refine kp [1, 2, 3, 5, 7, 8, 9, 54, 55, 56, 57, 61, 62, 63, 64] ?_
   refine ad fun _ k30 => ?_
   refine aG ?_
   refine ad fun _ k31 => ?_
   refine ag hP hN rfl ?_
   iterate 5 (refine ab rfl fun _ k0 => ?_; simp only [zO, zT, acs, reduceCtorEq, O, M, V, aa, Z, Y, Mdl.av, Mdl.cs]; (repeat refine an ?_); (try refine .inl ?_); apply k0; clear k0; simp only [zP, M])
   refine af ?_
   apply k31; clear k31; refine kp [1, 2, 3, 5, 7, 8, 9, 10, 11, 54, 55, 56, 57, 61, 62, 63, 64] ?_
   have hrl := hm.rl s (by omega); have hql := hm.ql s (by omega)
   have hnr := hm.nr s j (by omega) (by omega); have hor := hm.or s j (by omega) (by omega); have hox := hv.ol s j (by omega) (by omega)
   have hq1 := cI (n := x.m.nx.length) (i := s) (by omega)
   have hq2 := cI (n := x.m.nx.length) (i := ((x.m.nx.getD s []).getD j 0).toNat) (by omega)
   have hl1 := eV (n := s) (by omega); have hl2 := eV (n := ((x.m.nx.getD s []).getD j 0).toNat) (by omega)
   have hl3 := eu hv.ai j; have hl4 := eu hv.ao ((x.m.ot.getD s []).getD j 0).toNat
   have hqn := ca x.m.nx.length
   have htl := eM hv (k := s) (by omega)
   have hrn := gX x s j; have hh5 : (hdT x).length = 5 := rfl
   refine cm hP hN Tryd.mixed rfl ?_
   iterate 38 (refine ab rfl fun _ k0 => ?_; simp only [zO, zT, acs, reduceCtorEq, O, M, V, aa, Z, Y, Mdl.av, Mdl.cs, hq1, hq2, ah, aj, aq, aE]; (repeat refine an ?_); (try refine .inl ?_); apply k0; clear k0; simp only [zP, M])
   refine af ?_
   refine ⟨by kernel_rfl, ?_⟩
   apply k30; clear k30; refine kp [1, 2, 3, 5, 7, 8, 9, 10, 11, 54, 55, 56, 57, 61, 62, 63, 64] ?_
   refine ag hP hN rfl ?_
   iterate 2 (refine ab rfl fun _ k0 => ?_; simp only [zO, zT, acs, reduceCtorEq, O, M, V, aa, Z, Y, Mdl.av, Mdl.cs]; (repeat refine an ?_); (try refine .inl ?_); apply k0; clear k0; simp only [zP, M])
   refine af ?_
   refine ⟨_, _, ?_, aL [1, 2, 3, 5, 7, 8, 9, 54, 55, 56, 57, 61, 62, 63], j + 1, v + 1, by omega, rfl, ?_⟩
   · omega
   · rw [jA, ← List.append_assoc]; rfl
  (try simp only [zB, reduceCtorEq] at hc29)
  refine bC ?_
  apply k23; clear k23; refine kp [1, 2, 3, 5, 7, 8, 9, 54, 55, 56, 57, 61, 62, 63, 64] ?_
  refine ag hP hN rfl ?_
  iterate 2 (refine ab rfl fun _ k0 => ?_; simp only [zO, zT, acs, reduceCtorEq, O, M, V, aa, Z, Y, Mdl.av, Mdl.cs]; (repeat refine an ?_); (try refine .inl ?_); apply k0; clear k0; simp only [zP, M])
  refine af ?_
  refine ⟨_, _, ?_, aL [1, 2, 3, 5, 7, 54, 55, 56], s + 1, v, by omega, rfl, ?_⟩
  · omega
  · rw [fq, ← List.append_assoc, show (x.m.nx.getD s []).length = j by omega]; rfl
 (try simp only [zB, reduceCtorEq] at hc22)
 refine bC ?_
 apply k17; clear k17; refine kp [1, 2, 3, 5, 7, 54, 55, 56, 57] ?_
 refine ad fun _ k32 => ?_
 obtain rfl : s = x.m.nx.length := by omega
 refine eY 3 rfl ?_; simp only [aS, bo, zS, O, and_self, and_true, true_and, and_false, false_and, if_true, if_false, eq_self, reduceCtorEq, Nat.one_ne_zero, Nat.zero_ne_one]
 have hsl := mV hv; have htl := eM hv (Nat.le_refl _); have hh5 : (hdT x).length = 5 := rfl
 refine ag hP hN rfl ?_
 (refine ab rfl fun _ k0 => ?_; simp only [zO, zT, acs, reduceCtorEq, O, M, V, aa, Z, Y, Mdl.av, Mdl.cs, ah, aj, aq]; (repeat refine an ?_); (try refine .inl ?_); apply k0; clear k0; simp only [zP, M])
 refine ab rfl fun _ k0 => ?_
 refine aw (h := am (cW (hdT x ++ dh x x.m.nx.length) [10] (by rw [ah]; omega) (by omega))) rfl rfl (by first | exact rfl | (simp only [ev, zP, O, M]; exact rfl)) (by simp only [zV, acs, reduceCtorEq, O, M, V, aa, Z, Y, Mdl.av, Mdl.cs, ah, aj, aq]) ?_
 apply k0; clear k0; simp only [zP, M]
 iterate 3 (refine ab rfl fun _ k0 => ?_; simp only [zO, zT, acs, reduceCtorEq, O, M, V, aa, Z, Y, Mdl.av, Mdl.cs, ah, aj, aq]; (repeat refine an ?_); (try refine .inl ?_); apply k0; clear k0; simp only [zP, M])
 refine af ?_
 apply k32; clear k32; refine kp [1, 2, 3, 5, 7, 54, 55, 56, 57] ?_
 refine kp [2, 3] ?_
 first
 | ((refine bJ (L1 := [_, _, _]) rfl (by rw [hB]; exact Nat.succ_le_succ (Nat.zero_le _)) rfl rfl ?_); (refine bJ (L1 := [_, _]) rfl (by rw [hB]; exact Nat.succ_le_succ (Nat.zero_le _)) rfl rfl ?_); (refine bJ (L1 := [_]) rfl (by rw [hB]; exact Nat.succ_le_succ (Nat.zero_le _)) rfl rfl ?_))
 | (refine bJ (L1 := [_]) rfl (by rw [hB]; exact Nat.succ_le_succ (Nat.zero_le _)) rfl rfl ?_)
 refine au ?_
 refine ⟨by first | exact .inl rfl | exact .inr rfl, _, rfl, ?_⟩; simp only [zP, O, M, Mdl.av, Mdl.cs]
 first | (rw [ke (by assumption)]; done) | (rw [i3 (by assumption), ‹mvE x = 0›]; done)
set_option maxHeartbeats 2000000 in
theorem tI {g : Nat} {o : Obj} (hpw : POW Tryd.prog g o) (s : Bs) : cH Tryd.prog [.fact g o] 4 [.one (.str s)] { av := .one (.bool true), fp := [0] } := by
 refine dn _ _ Tryd.func4 rfl (by kernel_rfl) (Nat.le_of_ble_eq_true rfl) (by intro k hk; simp only [aj, aq, Nat.zero_add, M] at hk; simp only [List.mem_cons, List.not_mem_nil, or_false]; omega) (fun C hP hN hB => ?_)
 replace hB : C.bL.length = 1 := by rw [hB]; rfl
 replace hN : C.N = 85 := hN
 simp only [aV, M]
 refine ad fun _ k1 => ?_
 refine ag hP hN rfl ?_
 (refine ab rfl fun _ k0 => ?_; simp only [zO, zT, acs, reduceCtorEq, O, M, V, aa, Z, Y, Mdl.av, Mdl.cs, mdz]; (repeat refine an ?_); (try refine .inl ?_); apply k0; clear k0; simp only [zP, M])
 refine af ?_
 apply k1; clear k1; refine kp [0, 2] ?_
 refine ad fun _ k2 => ?_
 refine ad fun _ k3 => ?_
 refine ag hP hN rfl ?_
 iterate 3 (refine ab rfl fun _ k0 => ?_; simp only [zO, zT, acs, reduceCtorEq, O, M, V, aa, Z, Y, Mdl.av, Mdl.cs, mdz]; (repeat refine an ?_); (try refine .inl ?_); apply k0; clear k0; simp only [zP, M])
 refine af ?_
 apply k3; clear k3; refine kp [0, 2, 15] ?_
 refine cd (fun hc4 => ?_) (fun hc4 => ?_)
 ·(try simp only [zB, reduceCtorEq] at hc4)
  refine ad fun _ k5 => ?_
  refine ag hP hN rfl ?_
  refine ab rfl fun _ k0 => ?_
  refine aw (h := am i8) rfl rfl (by first | exact rfl | (simp only [ev, zP, O, M]; exact rfl)) (by simp only [zV, acs, reduceCtorEq, O, M, V, aa, Z, Y, Mdl.av, Mdl.cs, mdz]) ?_
  apply k0; clear k0; simp only [zP, M]
  (refine ab rfl fun _ k0 => ?_; simp only [zO, zT, acs, reduceCtorEq, O, M, V, aa, Z, Y, Mdl.av, Mdl.cs, mdz]; (repeat refine an ?_); (try refine .inl ?_); apply k0; clear k0; simp only [zP, M])
  refine af ?_
  apply k5; clear k5; refine kp [0, 2, 15] ?_
  refine kp [2] ?_
  first
  | ((refine bJ (L1 := [_, _]) rfl (by rw [hB]; exact Nat.succ_le_succ (Nat.zero_le _)) rfl rfl ?_); (refine bJ (L1 := [_]) rfl (by rw [hB]; exact Nat.succ_le_succ (Nat.zero_le _)) rfl rfl ?_))
  | (refine bJ (L1 := [_]) rfl (by rw [hB]; exact Nat.succ_le_succ (Nat.zero_le _)) rfl rfl ?_)
  | skip
  refine au ?_
  refine ⟨by first | exact .inl rfl | exact .inr rfl, _, rfl, ?_⟩; simp only [zP, O, M, Mdl.av, Mdl.cs, mdz]
  all_goals (first | rfl | exact ⟨rfl, rfl⟩ | (rw [hbd.1, bQ]; simp [hbd.2]; done) | (rw [hps, bQ]; simp [hv0]; done) | (refine ⟨rfl, ?_⟩; rw [hbd.1, bQ]; simp [hbd.2]; done) | (refine ⟨rfl, ?_⟩; rw [hps, bQ]; simp [hv0]; done))
 (try simp only [zB, reduceCtorEq] at hc4)
 have hs9 : s.length ≤ 900000 := by have h9 := hc4; omega
 refine ax ?_
 apply k2; clear k2; refine kp [0, 2, 15] ?_
 refine ad fun _ k6 => ?_
 refine ag hP hN rfl ?_
 (refine ab rfl fun _ k0 => ?_; simp only [zO, zT, acs, reduceCtorEq, O, M, V, aa, Z, Y, Mdl.av, Mdl.cs, mdz]; (repeat refine an ?_); (try refine .inl ?_); apply k0; clear k0; simp only [zP, M])
 refine ab rfl fun _ k0 => ?_
 refine aw (h := am (dI s (by omega))) rfl rfl (by first | exact rfl | (simp only [ev, zP, O, M]; exact rfl)) (by simp only [zV, acs, reduceCtorEq, O, M, V, aa, Z, Y, Mdl.av, Mdl.cs, mdz]) ?_
 apply k0; clear k0; simp only [zP, M]
 iterate 8 (refine ab rfl fun _ k0 => ?_; simp only [zO, zT, acs, reduceCtorEq, O, M, V, aa, Z, Y, Mdl.av, Mdl.cs, mdz]; (repeat refine an ?_); (try refine .inl ?_); apply k0; clear k0; simp only [zP, M])
 refine af ?_
 apply k6; clear k6; refine kp [0, 2, 3, 4, 5, 15] ?_
 refine ad fun _ k7 => ?_
 refine ad fun _ k8 => ?_
 refine ag hP hN rfl ?_
 iterate 2 (refine ab rfl fun _ k0 => ?_; simp only [zO, zT, acs, reduceCtorEq, O, M, V, aa, Z, Y, Mdl.av, Mdl.cs, mdz]; (repeat refine an ?_); (try refine .inl ?_); apply k0; clear k0; simp only [zP, M])
 refine af ?_
 apply k8; clear k8; refine kp [0, 2, 3, 4, 5, 15, 24] ?_
 refine cd (fun hc9 => ?_) (fun hc9 => ?_)
 ·(try simp only [zB, reduceCtorEq] at hc9)
  have hbd := tw hs9 hc9
  refine ad fun _ k10 => ?_
  refine ag hP hN rfl ?_
  iterate 2 (refine ab rfl fun _ k0 => ?_; simp only [zO, zT, acs, reduceCtorEq, O, M, V, aa, Z, Y, Mdl.av, Mdl.cs, mdz]; (repeat refine an ?_); (try refine .inl ?_); apply k0; clear k0; simp only [zP, M])
  refine ab rfl fun _ k0 => ?_
  refine aw (h := am (qX (PM s).1)) rfl rfl (by first | exact rfl | (simp only [ev, zP, O, M]; exact rfl)) (by simp only [zV, acs, reduceCtorEq, O, M, V, aa, Z, Y, Mdl.av, Mdl.cs, mdz]) ?_
  apply k0; clear k0; simp only [zP, M]
  (refine ab rfl fun _ k0 => ?_; simp only [zO, zT, acs, reduceCtorEq, O, M, V, aa, Z, Y, Mdl.av, Mdl.cs, mdz]; (repeat refine an ?_); (try refine .inl ?_); apply k0; clear k0; simp only [zP, M])
  refine' ay (want := true) 2 rfl (m := 28) (by simp only [zP, O, M]; exact rfl) (by kernel_rfl) rfl rfl rfl rfl rfl (fun hg11 => ?a11) ?b11 ?c11
  case a11 =>
   have hq11 := hg11; (try simp only [zB, reduceCtorEq] at hg11); simp only [zE]
   iterate 2 (refine aO rfl fun _ k0 => ?_; simp only [zO, zT, acs, reduceCtorEq, O, M, V, aa, Z, Y, Mdl.av, Mdl.cs, mdz]; (repeat refine an ?_); (try refine .inl ?_); apply k0; clear k0; simp only [zP, M])
   (refine ab rfl fun _ k0 => ?_; simp only [zO, zT, acs, reduceCtorEq, O, M, V, aa, Z, Y, Mdl.av, Mdl.cs, mdz]; (repeat refine an ?_); (try refine .inl ?_); apply k0; clear k0; simp only [zP, M])
   refine af ?_
   refine ⟨by simp only [zP, O, M]; exact rfl, rfl, ?_, rfl⟩; (repeat refine az rfl ?_); exact aP (by exact rfl) hq11
  case b11 => exact bq
  simp only [aK, aH]
  (refine ab rfl fun _ k0 => ?_; simp only [zO, zT, acs, reduceCtorEq, O, M, V, aa, Z, Y, Mdl.av, Mdl.cs, mdz]; (repeat refine an ?_); (try refine .inl ?_); apply k0; clear k0; simp only [zP, M])
  refine' ay (want := true) 1 rfl (m := 32) (by simp only [zP, O, M]; exact rfl) (by kernel_rfl) rfl rfl rfl rfl rfl (fun hg12 => ?a12) ?b12 ?c12
  case a12 =>
   have hq12 := hg12; (try simp only [zB, reduceCtorEq] at hg12); simp only [zE]
   refine aO rfl fun _ k0 => ?_
   refine aw (h := am i8) rfl rfl (by first | exact rfl | (simp only [ev, zP, O, M]; exact rfl)) (by simp only [zV, acs, reduceCtorEq, O, M, V, aa, Z, Y, Mdl.av, Mdl.cs, mdz]) ?_
   apply k0; clear k0; simp only [zP, M]
   (refine ab rfl fun _ k0 => ?_; simp only [zO, zT, acs, reduceCtorEq, O, M, V, aa, Z, Y, Mdl.av, Mdl.cs, mdz]; (repeat refine an ?_); (try refine .inl ?_); apply k0; clear k0; simp only [zP, M])
   refine af ?_
   refine ⟨by simp only [zP, O, M]; exact rfl, rfl, ?_, rfl⟩; (repeat refine az rfl ?_); exact aP (by exact rfl) hq12
  case b12 => exact bq
  simp only [aK, aH]
  (refine ab rfl fun _ k0 => ?_; simp only [zO, zT, acs, reduceCtorEq, O, M, V, aa, Z, Y, Mdl.av, Mdl.cs, mdz]; (repeat refine an ?_); (try refine .inl ?_); apply k0; clear k0; simp only [zP, M])
  refine af ?_
  apply k10; clear k10; refine kp [0, 2, 3, 4, 5, 15, 24] ?_
  refine kp [2] ?_
  first
  | ((refine bJ (L1 := [_, _]) rfl (by rw [hB]; exact Nat.succ_le_succ (Nat.zero_le _)) rfl rfl ?_); (refine bJ (L1 := [_]) rfl (by rw [hB]; exact Nat.succ_le_succ (Nat.zero_le _)) rfl rfl ?_))
  | (refine bJ (L1 := [_]) rfl (by rw [hB]; exact Nat.succ_le_succ (Nat.zero_le _)) rfl rfl ?_)
  | skip
  refine au ?_
  refine ⟨by first | exact .inl rfl | exact .inr rfl, _, rfl, ?_⟩; simp only [zP, O, M, Mdl.av, Mdl.cs, mdz]
  all_goals (first | rfl | exact ⟨rfl, rfl⟩ | (rw [hbd.1, bQ]; simp [hbd.2]; done) | (rw [hps, bQ]; simp [hv0]; done) | (refine ⟨rfl, ?_⟩; rw [hbd.1, bQ]; simp [hbd.2]; done) | (refine ⟨rfl, ?_⟩; rw [hps, bQ]; simp [hv0]; done))
 (try simp only [zB, reduceCtorEq] at hc9)
 have hok := ux hs9 (by have h9 := hc9; omega)
 obtain ⟨hv0, hl0⟩ := hok
 have hsz := oW hv0
 have hps := o3 hv0
 refine ax ?_
 apply k7; clear k7; refine kp [0, 2, 3, 4, 5, 15, 24] ?_
 refine ad fun _ k13 => ?_
 refine ag hP hN rfl ?_
 (refine ab rfl fun _ k0 => ?_; simp only [zO, zT, acs, reduceCtorEq, O, M, V, aa, Z, Y, Mdl.av, Mdl.cs, mdz]; (repeat refine an ?_); (try refine .inl ?_); apply k0; clear k0; simp only [zP, M])
 refine ab rfl fun _ k0 => ?_
 refine aw (h := eG (kK hpw (PM s).1) rfl) rfl rfl (by first | exact rfl | (simp only [ev, zP, O, M]; exact rfl)) (by simp only [zV, acs, reduceCtorEq, O, M, V, aa, Z, Y, Mdl.av, Mdl.cs, mdz]) ?_
 apply k0; clear k0; simp only [zP, M]
 iterate 5 (refine ab rfl fun _ k0 => ?_; simp only [zO, zT, acs, reduceCtorEq, O, M, V, aa, Z, Y, Mdl.av, Mdl.cs, mdz]; (repeat refine an ?_); (try refine .inl ?_); apply k0; clear k0; simp only [zP, M])
 refine af ?_
 apply k13; clear k13; refine kp [0, 2, 3, 4, 5, 6, 7, 15, 24] ?_
 refine ad fun _ k14 => ?_
 refine ad fun _ k15 => ?_
 refine ag hP hN rfl ?_
 iterate 3 (refine ab rfl fun _ k0 => ?_; simp only [zO, zT, acs, reduceCtorEq, O, M, V, aa, Z, Y, Mdl.av, Mdl.cs, mdz]; (repeat refine an ?_); (try refine .inl ?_); apply k0; clear k0; simp only [zP, M])
 refine' ay (want := false) 3 rfl (m := 42) (by simp only [zP, O, M]; exact rfl) (by kernel_rfl) rfl rfl rfl rfl rfl (fun hg16 => ?a16) ?b16 ?c16
 case a16 =>
  have hq16 := hg16; (try simp only [zB, reduceCtorEq] at hg16); simp only [zE]
  (refine aO rfl fun _ k0 => ?_; simp only [zO, zT, acs, reduceCtorEq, O, M, V, aa, Z, Y, Mdl.av, Mdl.cs, mdz]; (repeat refine an ?_); (try refine .inl ?_); apply k0; clear k0; simp only [zP, M])
  refine aO rfl fun _ k0 => ?_
  refine aw (h := am (i9 (PM s).1)) rfl rfl (by first | exact rfl | (simp only [ev, zP, O, M]; exact rfl)) (by simp only [zV, acs, reduceCtorEq, O, M, V, aa, Z, Y, Mdl.av, Mdl.cs, mdz]) ?_
  apply k0; clear k0; simp only [zP, M]
  (refine aO rfl fun _ k0 => ?_; simp only [zO, zT, acs, reduceCtorEq, O, M, V, aa, Z, Y, Mdl.av, Mdl.cs, mdz]; (repeat refine an ?_); (try refine .inl ?_); apply k0; clear k0; simp only [zP, M])
  (refine ab rfl fun _ k0 => ?_; simp only [zO, zT, acs, reduceCtorEq, O, M, V, aa, Z, Y, Mdl.av, Mdl.cs, mdz]; (repeat refine an ?_); (try refine .inl ?_); apply k0; clear k0; simp only [zP, M])
  refine af ?_
  refine ⟨by simp only [zP, O, M]; exact rfl, rfl, ?_, rfl⟩; (repeat refine az rfl ?_); exact aP (by exact rfl) hq16
 case b16 => exact bq
 simp only [aK, aH]
 (refine ab rfl fun _ k0 => ?_; simp only [zO, zT, acs, reduceCtorEq, O, M, V, aa, Z, Y, Mdl.av, Mdl.cs, mdz]; (repeat refine an ?_); (try refine .inl ?_); apply k0; clear k0; simp only [zP, M])
 refine' ay (want := false) 2 rfl (m := 47) (by simp only [zP, O, M]; exact rfl) (by kernel_rfl) rfl rfl rfl rfl rfl (fun hg17 => ?a17) ?b17 ?c17
 case a17 =>
  have hq17 := hg17; (try simp only [zB, reduceCtorEq] at hg17); simp only [zE]
  iterate 2 (refine aO rfl fun _ k0 => ?_; simp only [zO, zT, acs, reduceCtorEq, O, M, V, aa, Z, Y, Mdl.av, Mdl.cs, mdz]; (repeat refine an ?_); (try refine .inl ?_); apply k0; clear k0; simp only [zP, M])
  (refine ab rfl fun _ k0 => ?_; simp only [zO, zT, acs, reduceCtorEq, O, M, V, aa, Z, Y, Mdl.av, Mdl.cs, mdz]; (repeat refine an ?_); (try refine .inl ?_); apply k0; clear k0; simp only [zP, M])
  refine af ?_
  refine ⟨by simp only [zP, O, M]; exact rfl, rfl, ?_, rfl⟩; (repeat refine az rfl ?_); exact aP (by exact rfl) hq17
 case b17 => exact bq
 simp only [aK, aH]
 refine af ?_
 apply k15; clear k15; refine kp [0, 2, 3, 4, 5, 6, 7, 15, 24, 50] ?_
 refine cd (fun hc18 => ?_) (fun hc18 => ?_)
 ·exfalso; (try simp only [zB, reduceCtorEq] at hc18)
  simp [hv0, hl0] at hc18
 (try simp only [zB, reduceCtorEq] at hc18)
 refine ax ?_
 apply k14; clear k14; refine kp [0, 2, 3, 4, 5, 6, 7, 15, 24, 50] ?_
 refine ad fun _ k19 => ?_
 refine ag hP hN rfl ?_
 (refine ab rfl fun _ k0 => ?_; simp only [zO, zT, acs, reduceCtorEq, O, M, V, aa, Z, Y, Mdl.av, Mdl.cs, mdz]; (repeat refine an ?_); (try refine .inl ?_); apply k0; clear k0; simp only [zP, M])
 refine ab rfl fun _ k0 => ?_
 refine aw (h := am (dI (SM (PM s).1) (by omega))) rfl rfl (by first | exact rfl | (simp only [ev, zP, O, M]; exact rfl)) (by simp only [zV, acs, reduceCtorEq, O, M, V, aa, Z, Y, Mdl.av, Mdl.cs, mdz]) ?_
 apply k0; clear k0; simp only [zP, M]
 iterate 8 (refine ab rfl fun _ k0 => ?_; simp only [zO, zT, acs, reduceCtorEq, O, M, V, aa, Z, Y, Mdl.av, Mdl.cs, mdz]; (repeat refine an ?_); (try refine .inl ?_); apply k0; clear k0; simp only [zP, M])
 refine af ?_
 apply k19; clear k19; refine kp [0, 2, 3, 4, 5, 6, 7, 8, 9, 10, 15, 24, 50] ?_
 refine ad fun _ k20 => ?_
 refine ag hP hN rfl ?_
 (refine ab rfl fun _ k0 => ?_; simp only [zO, zT, acs, reduceCtorEq, O, M, V, aa, Z, Y, Mdl.av, Mdl.cs, mdz]; (repeat refine an ?_); (try refine .inl ?_); apply k0; clear k0; simp only [zP, M])
 refine ab rfl fun _ k0 => ?_
 refine aw (h := eG (kK hpw (PM (SM (PM s).1)).1) rfl) rfl rfl (by first | exact rfl | (simp only [ev, zP, O, M]; exact rfl)) (by simp only [zV, acs, reduceCtorEq, O, M, V, aa, Z, Y, Mdl.av, Mdl.cs, mdz]) ?_
 apply k0; clear k0; simp only [zP, M]
 iterate 5 (refine ab rfl fun _ k0 => ?_; simp only [zO, zT, acs, reduceCtorEq, O, M, V, aa, Z, Y, Mdl.av, Mdl.cs, mdz]; (repeat refine an ?_); (try refine .inl ?_); apply k0; clear k0; simp only [zP, M])
 refine af ?_
 apply k20; clear k20; refine kp [0, 2, 3, 4, 5, 6, 7, 8, 9, 10, 11, 12, 15, 24, 50] ?_
 refine ad fun _ k21 => ?_
 refine ag hP hN rfl ?_
 iterate 2 (refine ab rfl fun _ k0 => ?_; simp only [zO, zT, acs, reduceCtorEq, O, M, V, aa, Z, Y, Mdl.av, Mdl.cs, mdz]; (repeat refine an ?_); (try refine .inl ?_); apply k0; clear k0; simp only [zP, M])
 refine ab rfl fun _ k0 => ?_
 refine aw (h := am (lM (PM s).1 (PM (SM (PM s).1)).1)) rfl rfl (by first | exact rfl | (simp only [ev, zP, O, M]; exact rfl)) (by simp only [zV, acs, reduceCtorEq, O, M, V, aa, Z, Y, Mdl.av, Mdl.cs, mdz]) ?_
 apply k0; clear k0; simp only [zP, M]
 (refine ab rfl fun _ k0 => ?_; simp only [zO, zT, acs, reduceCtorEq, O, M, V, aa, Z, Y, Mdl.av, Mdl.cs, mdz]; (repeat refine an ?_); (try refine .inl ?_); apply k0; clear k0; simp only [zP, M])
 refine' ay (want := true) 2 rfl (m := 65) (by simp only [zP, O, M]; exact rfl) (by kernel_rfl) rfl rfl rfl rfl rfl (fun hg22 => ?a22) ?b22 ?c22
 case a22 =>
  have hq22 := hg22; (try simp only [zB, reduceCtorEq] at hg22); simp only [zE]
  iterate 2 (refine aO rfl fun _ k0 => ?_; simp only [zO, zT, acs, reduceCtorEq, O, M, V, aa, Z, Y, Mdl.av, Mdl.cs, mdz]; (repeat refine an ?_); (try refine .inl ?_); apply k0; clear k0; simp only [zP, M])
  (refine ab rfl fun _ k0 => ?_; simp only [zO, zT, acs, reduceCtorEq, O, M, V, aa, Z, Y, Mdl.av, Mdl.cs, mdz]; (repeat refine an ?_); (try refine .inl ?_); apply k0; clear k0; simp only [zP, M])
  refine af ?_
  refine ⟨by simp only [zP, O, M]; exact rfl, rfl, ?_, rfl⟩; (repeat refine az rfl ?_); exact aP (by exact rfl) hq22
 case b22 => exact bq
 simp only [aK, aH]
 (refine ab rfl fun _ k0 => ?_; simp only [zO, zT, acs, reduceCtorEq, O, M, V, aa, Z, Y, Mdl.av, Mdl.cs, mdz]; (repeat refine an ?_); (try refine .inl ?_); apply k0; clear k0; simp only [zP, M])
 refine' ay (want := true) 2 rfl (m := 69) (by simp only [zP, O, M]; exact rfl) (by kernel_rfl) rfl rfl rfl rfl rfl (fun hg23 => ?a23) ?b23 ?c23
 case a23 =>
  have hq23 := hg23; (try simp only [zB, reduceCtorEq] at hg23); simp only [zE]
  iterate 2 (refine aO rfl fun _ k0 => ?_; simp only [zO, zT, acs, reduceCtorEq, O, M, V, aa, Z, Y, Mdl.av, Mdl.cs, mdz]; (repeat refine an ?_); (try refine .inl ?_); apply k0; clear k0; simp only [zP, M])
  (refine ab rfl fun _ k0 => ?_; simp only [zO, zT, acs, reduceCtorEq, O, M, V, aa, Z, Y, Mdl.av, Mdl.cs, mdz]; (repeat refine an ?_); (try refine .inl ?_); apply k0; clear k0; simp only [zP, M])
  refine af ?_
  refine ⟨by simp only [zP, O, M]; exact rfl, rfl, ?_, rfl⟩; (repeat refine az rfl ?_); exact aP (by exact rfl) hq23
 case b23 => exact bq
 simp only [aK, aH]
 (refine ab rfl fun _ k0 => ?_; simp only [zO, zT, acs, reduceCtorEq, O, M, V, aa, Z, Y, Mdl.av, Mdl.cs, mdz]; (repeat refine an ?_); (try refine .inl ?_); apply k0; clear k0; simp only [zP, M])
 refine' ay (want := true) 3 rfl (m := 73) (by simp only [zP, O, M]; exact rfl) (by kernel_rfl) rfl rfl rfl rfl rfl (fun hg24 => ?a24) ?b24 ?c24
 case a24 =>
  have hq24 := hg24; (try simp only [zB, reduceCtorEq] at hg24); simp only [zE]
  iterate 3 (refine aO rfl fun _ k0 => ?_; simp only [zO, zT, acs, reduceCtorEq, O, M, V, aa, Z, Y, Mdl.av, Mdl.cs, mdz]; (repeat refine an ?_); (try refine .inl ?_); apply k0; clear k0; simp only [zP, M])
  (refine ab rfl fun _ k0 => ?_; simp only [zO, zT, acs, reduceCtorEq, O, M, V, aa, Z, Y, Mdl.av, Mdl.cs, mdz]; (repeat refine an ?_); (try refine .inl ?_); apply k0; clear k0; simp only [zP, M])
  refine af ?_
  refine ⟨by simp only [zP, O, M]; exact rfl, rfl, ?_, rfl⟩; (repeat refine az rfl ?_); exact aP (by exact rfl) hq24
 case b24 => exact bq
 simp only [aK, aH]
 (refine ab rfl fun _ k0 => ?_; simp only [zO, zT, acs, reduceCtorEq, O, M, V, aa, Z, Y, Mdl.av, Mdl.cs, mdz]; (repeat refine an ?_); (try refine .inl ?_); apply k0; clear k0; simp only [zP, M])
 refine' ay (want := true) 2 rfl (m := 78) (by simp only [zP, O, M]; exact rfl) (by kernel_rfl) rfl rfl rfl rfl rfl (fun hg25 => ?a25) ?b25 ?c25
 case a25 =>
  have hq25 := hg25; (try simp only [zB, reduceCtorEq] at hg25); simp only [zE]
  iterate 2 (refine aO rfl fun _ k0 => ?_; simp only [zO, zT, acs, reduceCtorEq, O, M, V, aa, Z, Y, Mdl.av, Mdl.cs, mdz]; (repeat refine an ?_); (try refine .inl ?_); apply k0; clear k0; simp only [zP, M])
  (refine ab rfl fun _ k0 => ?_; simp only [zO, zT, acs, reduceCtorEq, O, M, V, aa, Z, Y, Mdl.av, Mdl.cs, mdz]; (repeat refine an ?_); (try refine .inl ?_); apply k0; clear k0; simp only [zP, M])
  refine af ?_
  refine ⟨by simp only [zP, O, M]; exact rfl, rfl, ?_, rfl⟩; (repeat refine az rfl ?_); exact aP (by exact rfl) hq25
 case b25 => exact bq
 simp only [aK, aH]
 (refine ab rfl fun _ k0 => ?_; simp only [zO, zT, acs, reduceCtorEq, O, M, V, aa, Z, Y, Mdl.av, Mdl.cs, mdz]; (repeat refine an ?_); (try refine .inl ?_); apply k0; clear k0; simp only [zP, M])
 refine' ay (want := true) 1 rfl (m := 82) (by simp only [zP, O, M]; exact rfl) (by kernel_rfl) rfl rfl rfl rfl rfl (fun hg26 => ?a26) ?b26 ?c26
 case a26 =>
  have hq26 := hg26; (try simp only [zB, reduceCtorEq] at hg26); simp only [zE]
  refine aO rfl fun _ k0 => ?_
  refine aw (h := am i8) rfl rfl (by first | exact rfl | (simp only [ev, zP, O, M]; exact rfl)) (by simp only [zV, acs, reduceCtorEq, O, M, V, aa, Z, Y, Mdl.av, Mdl.cs, mdz]) ?_
  apply k0; clear k0; simp only [zP, M]
  (refine ab rfl fun _ k0 => ?_; simp only [zO, zT, acs, reduceCtorEq, O, M, V, aa, Z, Y, Mdl.av, Mdl.cs, mdz]; (repeat refine an ?_); (try refine .inl ?_); apply k0; clear k0; simp only [zP, M])
  refine af ?_
  refine ⟨by simp only [zP, O, M]; exact rfl, rfl, ?_, rfl⟩; (repeat refine az rfl ?_); exact aP (by exact rfl) hq26
 case b26 => exact bq
 simp only [aK, aH]
 (refine ab rfl fun _ k0 => ?_; simp only [zO, zT, acs, reduceCtorEq, O, M, V, aa, Z, Y, Mdl.av, Mdl.cs, mdz]; (repeat refine an ?_); (try refine .inl ?_); apply k0; clear k0; simp only [zP, M])
 refine af ?_
 apply k21; clear k21; refine kp [0, 2, 3, 4, 5, 6, 7, 8, 9, 10, 11, 12, 15, 24, 50] ?_
 refine kp [2] ?_
 first
 | ((refine bJ (L1 := [_, _]) rfl (by rw [hB]; exact Nat.succ_le_succ (Nat.zero_le _)) rfl rfl ?_); (refine bJ (L1 := [_]) rfl (by rw [hB]; exact Nat.succ_le_succ (Nat.zero_le _)) rfl rfl ?_))
 | (refine bJ (L1 := [_]) rfl (by rw [hB]; exact Nat.succ_le_succ (Nat.zero_le _)) rfl rfl ?_)
 | skip
 refine au ?_
 refine ⟨by first | exact .inl rfl | exact .inr rfl, _, rfl, ?_⟩; simp only [zP, O, M, Mdl.av, Mdl.cs, mdz]
 all_goals (first | rfl | exact ⟨rfl, rfl⟩ | (rw [hbd.1, bQ]; simp [hbd.2]; done) | (rw [hps, bQ]; simp [hv0]; done) | (refine ⟨rfl, ?_⟩; rw [hbd.1, bQ]; simp [hbd.2]; done) | (refine ⟨rfl, ?_⟩; rw [hps, bQ]; simp [hv0]; done))
end Go.Proofs.YtmfkpljjhiglpaaDoor
