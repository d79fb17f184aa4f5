/- Contracts of functions of this seat, each out of a walk through its code, and plain facts on what they compute. Conditions: those that each theorem names. -/
import Derived.Test.YtmfkpljjhiglpaaDoorW03
set_option linter.unusedSimpArgs false
set_option linter.unusedVariables false
set_option maxRecDepth 100000
namespace Go.Proofs.YtmfkpljjhiglpaaDoor
open Go Go.AV
open Nat renaming reduceEqDiff → M, reduceAdd → E, reduceLeDiff → O, reduceLT → Z, reduceMul → Y, reduceSub → V
open List renaming set_cons_zero → bH, set_cons_succ → b0, getD_cons_zero → cK, length_append → ag, map_cons → aV, cons_append → ak, map_nil → bC, length_cons → ah, nil_append → am, take_succ_cons → cb, length_nil → aq, length_map → bV, length_replicate → aI, take_length → aD, mem_cons_self → aR, mem_cons_of_mem → aC
open Int renaming toNat_natCast → aM
set_option maxHeartbeats 3000000 in
theorem tP (s rm : Bs) (n : Int) (hn : 0 ≤ n ∧ n < 65536) : bI Tryd.prog 5 [.one (.str s), .one (.str rm), .one (.int .u16 n)] (.one (.bool true)) := by
 refine aP Tryd.func5 rfl (by kernel_rfl) (Nat.le_of_ble_eq_true rfl) rfl fun C hP hN hB => ?_
 replace hN : C.N = 163 := hN
 simp only [aW, E]
 obtain ⟨t, rfl⟩ := Int.eq_ofNat_of_zero_le hn.1
 obtain ⟨p, hp⟩ : ∃ p, t % (spB 10 s).length = p := ⟨_, rfl⟩
 have hps : p < (spB 10 s).length := by rw [← hp]; exact Nat.mod_lt _ (gc 10 s)
 have hq : Int.tmod (t : Int) (((spB 10 s).length : Nat) : Int) = (p : Int) := by rw [← hp]; rfl
 have hlen9 := mC 10 s
 refine ab fun _ k1 => ?_
 refine af hP hN rfl ?_
 (refine aa rfl fun _ k0 => ?_; simp only [zO, zT, acs, reduceCtorEq, M, E, O, Z, Y, V, Mdl.av, Mdl.cs]; (repeat refine an ?_); (try refine .inl ?_); apply k0; clear k0; simp only [zP, E])
 refine ae ?_
 apply k1; clear k1; refine kp [0, 1, 2, 6] ?_
 refine ab fun _ k2 => ?_
 refine ab fun _ k3 => ?_
 refine af hP hN rfl ?_
 iterate 4 (refine aa rfl fun _ k0 => ?_; simp only [zO, zT, acs, reduceCtorEq, M, E, O, Z, Y, V, Mdl.av, Mdl.cs]; (repeat refine an ?_); (try refine .inl ?_); apply k0; clear k0; simp only [zP, E])
 refine' ar (want := false) 3 rfl (m := 25) (by simp only [zP, M, E]; exact rfl) (by kernel_rfl) rfl rfl rfl rfl rfl (fun hg4 => ?a4) ?b4 ?c4
 case a4 =>
  have hq4 := hg4; (try simp only [zB, reduceCtorEq] at hg4); simp only [zE]
  iterate 3 (refine aJ rfl fun _ k0 => ?_; simp only [zO, zT, acs, reduceCtorEq, M, E, O, Z, Y, V, Mdl.av, Mdl.cs]; (repeat refine an ?_); (try refine .inl ?_); apply k0; clear k0; simp only [zP, E])
  (refine aa rfl fun _ k0 => ?_; simp only [zO, zT, acs, reduceCtorEq, M, E, O, Z, Y, V, Mdl.av, Mdl.cs]; (repeat refine an ?_); (try refine .inl ?_); apply k0; clear k0; simp only [zP, E])
  refine ae ?_
  refine ⟨by simp only [zP, M, E]; exact rfl, rfl, ?_, rfl⟩; (repeat refine au rfl ?_); exact aH (by exact rfl) hq4
 case b4 => exact aU
 simp only [aA, aw]
 (refine aa rfl fun _ k0 => ?_; simp only [zO, zT, acs, reduceCtorEq, M, E, O, Z, Y, V, Mdl.av, Mdl.cs]; (repeat refine an ?_); (try refine .inl ?_); apply k0; clear k0; simp only [zP, E])
 refine' ar (want := false) 11 rfl (m := 30) (by simp only [zP, M, E]; exact rfl) (by kernel_rfl) rfl rfl rfl rfl rfl (fun hg5 => ?a5) ?b5 ?c5
 case a5 =>
  have hq5 := hg5; (try simp only [zB, reduceCtorEq] at hg5); simp only [zE]
  iterate 4 (refine aJ rfl fun _ k0 => ?_; simp only [zO, zT, acs, reduceCtorEq, M, E, O, Z, Y, V, Mdl.av, Mdl.cs]; (repeat refine an ?_); (try refine .inl ?_); apply k0; clear k0; simp only [zP, E])
  refine' ar (want := true) 6 rfl (m := 34) (by simp only [zP, M, E]; exact rfl) (by kernel_rfl) rfl rfl rfl rfl rfl (fun hg6 => ?a6) ?b6 ?c6
  case a6 =>
   have hq6 := hg6; (try simp only [zB, reduceCtorEq] at hg6); simp only [zE]
   iterate 7 (refine aJ rfl fun _ k0 => ?_; simp only [zO, zT, acs, reduceCtorEq, M, E, O, Z, Y, V, Mdl.av, Mdl.cs]; (repeat refine an ?_); (try refine .inl ?_); apply k0; clear k0; simp only [zP, E])
   refine ae ?_
   refine ⟨by simp only [zP, M, E]; exact rfl, rfl, ?_, rfl⟩; (repeat refine au rfl ?_); exact aH (by exact rfl) hq6
  case b6 => exact aU
  simp only [aA, aw]
  (refine aa rfl fun _ k0 => ?_; simp only [zO, zT, acs, reduceCtorEq, M, E, O, Z, Y, V, Mdl.av, Mdl.cs]; (repeat refine an ?_); (try refine .inl ?_); apply k0; clear k0; simp only [zP, E])
  refine ae ?_
  refine ⟨by simp only [zP, M, E]; exact rfl, rfl, ?_, rfl⟩; (repeat refine au rfl ?_); exact aH (by exact rfl) hq5
 case b5 => exact aU
 simp only [aA, aw]
 refine ae ?_
 apply k3; clear k3; refine kp [0, 1, 2, 6, 42] ?_
 refine cd (fun hc7 => ?_) (fun hc7 => ?_)
 ·(try simp only [zB, reduceCtorEq] at hc7)
  refine ab fun _ k8 => ?_
  refine af hP hN rfl ?_
  refine aa rfl fun _ k0 => ?_
  refine ax (h := aj dJ) rfl rfl (by first | exact rfl | (simp only [ev, zP, M, E]; exact rfl)) (by simp only [zV, acs, reduceCtorEq, M, E, O, Z, Y, V, Mdl.av, Mdl.cs]) ?_
  apply k0; clear k0; simp only [zP, E]
  (refine aa rfl fun _ k0 => ?_; simp only [zO, zT, acs, reduceCtorEq, M, E, O, Z, Y, V, Mdl.av, Mdl.cs]; (repeat refine an ?_); (try refine .inl ?_); apply k0; clear k0; simp only [zP, E])
  refine ae ?_
  apply k8; clear k8; refine kp [0, 1, 2, 6, 42] ?_
  refine ay ?_
  refine ⟨nr, _, rfl, ?_⟩; simp only [zF, zP, M, E, Mdl.av, Mdl.cs]
  refine VLE.of_eq ?_
  first
  | rfl
  | (rw [hp1, hp2, js hsh]; simp [bJ]; done)
  | (rw [hp1, hp2, j9 (by omega)]; simp [bJ]; done)
 (try simp only [zB, reduceCtorEq] at hc7)
 have hgr := hc7
 have hs2 : s.length ≤ 2000 := by omega
 have hr1 : rm.length ≤ 100 := by omega
 refine az ?_
 apply k2; clear k2; refine kp [0, 1, 2, 6, 42] ?_
 refine ab fun _ k9 => ?_
 refine ab fun _ k10 => ?_
 refine af hP hN rfl ?_
 (refine aa rfl fun _ k0 => ?_; simp only [zO, zT, acs, reduceCtorEq, M, E, O, Z, Y, V, Mdl.av, Mdl.cs]; (repeat refine an ?_); (try refine .inl ?_); apply k0; clear k0; simp only [zP, E])
 refine ae ?_
 apply k10; clear k10; refine kp [0, 1, 2, 6, 7, 42] ?_
 refine aG ?_
 refine bB (fun n11 s11 => ∃ (k : Nat), (k ≤ rm.length) ∧ (∀ q, q < k → ¬ bt rm q = 10) ∧ n11 = rm.length - k ∧ s11 = { env := [(0, .one (.str s)), (1, .one (.str rm)), (2, .one (.int .u16 (t : Int))), (6, .one (.bool false)), (7, .one (.int .i64 (k : Int)))], L := [] }) ?_ ?_
 ·exact ⟨_, _, aK [0, 1, 2, 6, 7], 0, Nat.zero_le _, fun q hq => by omega, rfl, rfl⟩
 rintro n11 s11 ⟨k, hk, hnl, rfl, rfl⟩
 refine ab fun _ k12 => ?_
 refine ab fun _ k13 => ?_
 refine af hP hN rfl ?_
 iterate 4 (refine aa rfl fun _ k0 => ?_; simp only [zO, zT, acs, reduceCtorEq, M, E, O, Z, Y, V, Mdl.av, Mdl.cs]; (repeat refine an ?_); (try refine .inl ?_); apply k0; clear k0; simp only [zP, E])
 refine ae ?_
 apply k13; clear k13; refine kp [0, 1, 2, 6, 7, 47] ?_
 refine cd (fun hc14 => ?_) (fun hc14 => ?_)
 ·(try simp only [zB, reduceCtorEq] at hc14)
  refine az ?_
  apply k12; clear k12; refine kp [0, 1, 2, 6, 7, 47] ?_
  refine ab fun _ k15 => ?_
  refine aG ?_
  refine ab fun _ k16 => ?_
  refine af hP hN rfl ?_
  iterate 4 (refine aa rfl fun _ k0 => ?_; simp only [zO, zT, acs, reduceCtorEq, M, E, O, Z, Y, V, Mdl.av, Mdl.cs]; (repeat refine an ?_); (try refine .inl ?_); apply k0; clear k0; simp only [zP, E])
  refine ae ?_
  apply k16; clear k16; refine kp [0, 1, 2, 6, 7, 47, 53] ?_
  refine cd (fun hc17 => ?_) (fun hc17 => ?_)
  ·(try simp only [zB, reduceCtorEq] at hc17)
   refine ab fun _ k18 => ?_
   refine af hP hN rfl ?_
   refine aa rfl fun _ k0 => ?_
   refine ax (h := aj dJ) rfl rfl (by first | exact rfl | (simp only [ev, zP, M, E]; exact rfl)) (by simp only [zV, acs, reduceCtorEq, M, E, O, Z, Y, V, Mdl.av, Mdl.cs]) ?_
   apply k0; clear k0; simp only [zP, E]
   (refine aa rfl fun _ k0 => ?_; simp only [zO, zT, acs, reduceCtorEq, M, E, O, Z, Y, V, Mdl.av, Mdl.cs]; (repeat refine an ?_); (try refine .inl ?_); apply k0; clear k0; simp only [zP, E])
   refine ae ?_
   apply k18; clear k18; refine kp [0, 1, 2, 6, 7, 47, 53] ?_
   refine ay ?_
   refine ⟨nr, _, rfl, ?_⟩; simp only [zF, zP, M, E, Mdl.av, Mdl.cs]
   refine VLE.of_eq ?_
   first
   | rfl
   | (rw [hp1, hp2, js hsh]; simp [bJ]; done)
   | (rw [hp1, hp2, j9 (by omega)]; simp [bJ]; done)
  (try simp only [zB, reduceCtorEq] at hc17)
  refine az ?_
  apply k15; clear k15; refine kp [0, 1, 2, 6, 7, 47, 53] ?_
  refine af hP hN rfl ?_
  iterate 3 (refine aa rfl fun _ k0 => ?_; simp only [zO, zT, acs, reduceCtorEq, M, E, O, Z, Y, V, Mdl.av, Mdl.cs]; (repeat refine an ?_); (try refine .inl ?_); apply k0; clear k0; simp only [zP, E])
  refine ae ?_
  refine ⟨_, _, ?_, aK [0, 1, 2, 6, 7], k + 1, by omega, fun q hq => ?_, rfl, rfl⟩
  · omega
  · by_cases e : q = k
    · rw [e]; unfold bt; omega
    · exact hnl q (by omega)
 (try simp only [zB, reduceCtorEq] at hc14)
 refine bz ?_
 apply k9; clear k9; refine kp [0, 1, 2, 6, 7, 47] ?_
 refine ab fun _ k19 => ?_
 have h10 := sl (by omega) hnl
 have hs9 := uv hgr.2
 obtain ⟨hp1, hz1⟩ := oF (sk := 35 :: rm) (k := p) (fun r => u0 r rm) (by simp only [List.mem_cons, not_or]; exact ⟨by decide, h10⟩) hs9 hps (by simp only [ah]; omega)
 obtain ⟨hp2, hz2⟩ := oF (sk := []) (k := p) tX (by simp) hs9 hps (by simp only [aq]; omega)
 simp only [ah, aq] at hz1 hz2
 have hpl := sj s
 refine af hP hN rfl ?_
 (refine aa rfl fun _ k0 => ?_; simp only [zO, zT, acs, reduceCtorEq, M, E, O, Z, Y, V, Mdl.av, Mdl.cs]; (repeat refine an ?_); (try refine .inl ?_); apply k0; clear k0; simp only [zP, E])
 refine aa rfl fun _ k0 => ?_
 refine ax (h := aj (qy s (by omega))) rfl rfl (by first | exact rfl | (simp only [ev, zP, M, E]; exact rfl)) (by simp only [zV, acs, reduceCtorEq, M, E, O, Z, Y, V, Mdl.av, Mdl.cs]) ?_
 apply k0; clear k0; simp only [zP, E]
 (refine aa rfl fun _ k0 => ?_; simp only [zO, zT, acs, reduceCtorEq, M, E, O, Z, Y, V, Mdl.av, Mdl.cs]; (repeat refine an ?_); (try refine .inl ?_); apply k0; clear k0; simp only [zP, E])
 refine ae ?_
 apply k19; clear k19; refine kp [0, 1, 2, 6, 7, 8, 47] ?_
 refine ab fun _ k20 => ?_
 refine af hP hN rfl ?_
 (refine aa rfl fun _ k0 => ?_; simp only [zO, zT, acs, reduceCtorEq, M, E, O, Z, Y, V, Mdl.av, Mdl.cs, hq]; (repeat refine an ?_); (try refine .inl ?_); apply k0; clear k0; simp only [zP, E])
 (refine aa rfl fun _ k0 => ?_; simp only [zE, op1, ev, lkp, cU, bp, ia, cq, gW, fO, bY, cw, eP, Nat.div_one, cZ, cG, Ty.size, aX, dite_true, eN, bu, cW, dC, cI, dB, reduceCtorEq, M, E, O, Z, Y, V, Tryd.el22, Tryd.td22, Tryd.td3, Tryd.td40, Mdl.av, Mdl.cs, hq]; (repeat refine an ?_); (try refine .inl ?_); apply k0; clear k0; simp only [zP, E])
 iterate 4 (refine aa rfl fun _ k0 => ?_; simp only [zO, zT, acs, reduceCtorEq, M, E, O, Z, Y, V, Mdl.av, Mdl.cs, hq]; (repeat refine an ?_); (try refine .inl ?_); apply k0; clear k0; simp only [zP, E])
 refine ae ?_
 apply k20; clear k20; refine kp [0, 1, 2, 6, 7, 8, 9, 47] ?_
 refine ab fun _ k21 => ?_
 refine af hP hN rfl ?_
 iterate 2 (refine aa rfl fun _ k0 => ?_; simp only [zO, zT, acs, reduceCtorEq, M, E, O, Z, Y, V, Mdl.av, Mdl.cs]; (repeat refine an ?_); (try refine .inl ?_); apply k0; clear k0; simp only [zP, E])
 refine ae ?_
 apply k21; clear k21; refine kp [0, 1, 2, 6, 7, 8, 9, 10, 11, 47] ?_
 refine ab fun _ k22 => ?_
 refine ab fun _ k23 => ?_
 refine af hP hN rfl ?_
 (refine aa rfl fun _ k0 => ?_; simp only [zO, zT, acs, reduceCtorEq, M, E, O, Z, Y, V, Mdl.av, Mdl.cs]; (repeat refine an ?_); (try refine .inl ?_); apply k0; clear k0; simp only [zP, E])
 refine ae ?_
 apply k23; clear k23; refine kp [0, 1, 2, 6, 7, 8, 9, 10, 11, 12, 47] ?_
 refine aG ?_
 refine bB (fun n24 s24 => ∃ (k : Nat), (k ≤ (spB 10 s).length - 1) ∧ n24 = (spB 10 s).length - k ∧ s24 = { env := [(0, .one (.str s)), (1, .one (.str rm)), (6, .one (.bool false)), (8, .one (.list .str (spB 10 s))), (9, .one (.int .i64 (p : Int))), (10, .one (.str (dd (35 :: rm) p (spB 10 s) k))), (11, .one (.str (dd [] p (spB 10 s) k))), (12, .one (.int .i64 (k : Int)))], L := [] }) ?_ ?_
 ·exact ⟨_, _, aK [0, 1, 6, 8, 9, 10, 11, 12], 0, Nat.zero_le _, rfl, rfl⟩
 rintro n24 s24 ⟨k, hk, rfl, rfl⟩
 refine ab fun _ k25 => ?_
 refine ab fun _ k26 => ?_
 refine af hP hN rfl ?_
 iterate 5 (refine aa rfl fun _ k0 => ?_; simp only [zO, zT, acs, reduceCtorEq, M, E, O, Z, Y, V, Mdl.av, Mdl.cs]; (repeat refine an ?_); (try refine .inl ?_); apply k0; clear k0; simp only [zP, E])
 refine ae ?_
 apply k26; clear k26; refine kp [0, 1, 6, 8, 9, 10, 11, 12, 66] ?_
 refine cd (fun hc27 => ?_) (fun hc27 => ?_)
 ·(try simp only [zB, reduceCtorEq] at hc27)
  refine az ?_
  apply k25; clear k25; refine kp [0, 1, 6, 8, 9, 10, 11, 12, 66] ?_
  refine ab fun _ k28 => ?_
  refine aG ?_
  refine ab fun _ k29 => ?_
  refine ab fun _ k30 => ?_
  have hi1 := iD (sk := 35 :: rm) (k := p) (s := s) (i := k) (by omega)
  have hi2 := iD (sk := []) (k := p) (s := s) (i := k) (by omega)
  have hgl := iZ 10 s k
  simp only [ah, aq] at hi1 hi2
  refine af hP hN rfl ?_
  iterate 3 (refine aa rfl fun _ k0 => ?_; simp only [zO, zT, acs, reduceCtorEq, M, E, O, Z, Y, V, Mdl.av, Mdl.cs]; (repeat refine an ?_); (try refine .inl ?_); apply k0; clear k0; simp only [zP, E])
  refine ae ?_
  apply k30; clear k30; refine kp [0, 1, 6, 8, 9, 10, 11, 12, 66, 71] ?_
  refine cd (fun hc31 => ?_) (fun hc31 => ?_)
  ·(try simp only [zB, reduceCtorEq] at hc31)
   have hik : k = p := by have h9 := hc31; omega
   refine ab fun _ k32 => ?_
   refine af hP hN rfl ?_
   iterate 6 (refine aa rfl fun _ k0 => ?_; simp only [zO, zT, acs, reduceCtorEq, M, E, O, Z, Y, V, Mdl.av, Mdl.cs, ag, ah, aq]; (repeat refine an ?_); (try refine .inl ?_); apply k0; clear k0; simp only [zP, E])
   refine ae ?_
   apply k32; clear k32; refine kp [0, 1, 6, 8, 9, 10, 11, 12, 66, 71] ?_
   refine af hP hN rfl ?_
   iterate 3 (refine aa rfl fun _ k0 => ?_; simp only [zO, zT, acs, reduceCtorEq, M, E, O, Z, Y, V, Mdl.av, Mdl.cs, ag, ah, aq]; (repeat refine an ?_); (try refine .inl ?_); apply k0; clear k0; simp only [zP, E])
   refine ae ?_
   apply k29; clear k29; refine kp [0, 1, 6, 8, 9, 10, 11, 12, 66, 71] ?_
   refine ab fun _ k33 => ?_
   refine af hP hN rfl ?_
   iterate 8 (refine aa rfl fun _ k0 => ?_; simp only [zO, zT, acs, reduceCtorEq, M, E, O, Z, Y, V, Mdl.av, Mdl.cs, ag, ah, aq]; (repeat refine an ?_); (try refine .inl ?_); apply k0; clear k0; simp only [zP, E])
   refine ae ?_
   apply k33; clear k33; refine kp [0, 1, 6, 8, 9, 10, 11, 12, 66, 71] ?_
   refine af hP hN rfl ?_
   iterate 8 (refine aa rfl fun _ k0 => ?_; simp only [zO, zT, acs, reduceCtorEq, M, E, O, Z, Y, V, Mdl.av, Mdl.cs, ag, ah, aq]; (repeat refine an ?_); (try refine .inl ?_); apply k0; clear k0; simp only [zP, E])
   refine ae ?_
   apply k28; clear k28; refine kp [0, 1, 6, 8, 9, 10, 11, 12, 66, 71] ?_
   refine af hP hN rfl ?_
   iterate 3 (refine aa rfl fun _ k0 => ?_; simp only [zO, zT, acs, reduceCtorEq, M, E, O, Z, Y, V, Mdl.av, Mdl.cs]; (repeat refine an ?_); (try refine .inl ?_); apply k0; clear k0; simp only [zP, E])
   refine ae ?_
   refine ⟨_, _, ?_, aK [0, 1, 6, 8, 9, 10, 11, 12], k + 1, by omega, rfl, ?_⟩
   · omega
   · first
     | (rw [ep hik, ep hik]; simp only [List.append_assoc, ak, am, List.append_nil]; rfl)
     | (rw [ex hik, ex hik]; rfl)
  (try simp only [zB, reduceCtorEq] at hc31)
  have hik : ¬ k = p := by have h9 := hc31; omega
  refine az ?_
  apply k29; clear k29; refine kp [0, 1, 6, 8, 9, 10, 11, 12, 66, 71] ?_
  refine ab fun _ k34 => ?_
  refine af hP hN rfl ?_
  iterate 8 (refine aa rfl fun _ k0 => ?_; simp only [zO, zT, acs, reduceCtorEq, M, E, O, Z, Y, V, Mdl.av, Mdl.cs, ag, ah, aq]; (repeat refine an ?_); (try refine .inl ?_); apply k0; clear k0; simp only [zP, E])
  refine ae ?_
  apply k34; clear k34; refine kp [0, 1, 6, 8, 9, 10, 11, 12, 66, 71] ?_
  refine af hP hN rfl ?_
  iterate 8 (refine aa rfl fun _ k0 => ?_; simp only [zO, zT, acs, reduceCtorEq, M, E, O, Z, Y, V, Mdl.av, Mdl.cs, ag, ah, aq]; (repeat refine an ?_); (try refine .inl ?_); apply k0; clear k0; simp only [zP, E])
  refine ae ?_
  apply k28; clear k28; refine kp [0, 1, 6, 8, 9, 10, 11, 12, 66, 71] ?_
  refine af hP hN rfl ?_
  iterate 3 (refine aa rfl fun _ k0 => ?_; simp only [zO, zT, acs, reduceCtorEq, M, E, O, Z, Y, V, Mdl.av, Mdl.cs]; (repeat refine an ?_); (try refine .inl ?_); apply k0; clear k0; simp only [zP, E])
  refine ae ?_
  refine ⟨_, _, ?_, aK [0, 1, 6, 8, 9, 10, 11, 12], k + 1, by omega, rfl, ?_⟩
  · omega
  · first
    | (rw [ep hik, ep hik]; simp only [List.append_assoc, ak, am, List.append_nil]; rfl)
    | (rw [ex hik, ex hik]; rfl)
 (try simp only [zB, reduceCtorEq] at hc27)
 refine bz ?_
 apply k22; clear k22; refine kp [0, 1, 6, 8, 9, 10, 11, 12, 66] ?_
 refine ab fun _ k35 => ?_
 refine ab fun _ k36 => ?_
 have hi1 := iD (sk := 35 :: rm) (k := p) (s := s) (i := k) (by omega)
 have hi2 := iD (sk := []) (k := p) (s := s) (i := k) (by omega)
 have hgl := iZ 10 s k
 simp only [ah, aq] at hi1 hi2
 refine af hP hN rfl ?_
 iterate 5 (refine aa rfl fun _ k0 => ?_; simp only [zO, zT, acs, reduceCtorEq, M, E, O, Z, Y, V, Mdl.av, Mdl.cs]; (repeat refine an ?_); (try refine .inl ?_); apply k0; clear k0; simp only [zP, E])
 refine ae ?_
 apply k36; clear k36; refine kp [0, 1, 6, 8, 9, 10, 11, 12, 66, 97] ?_
 refine cd (fun hc37 => ?_) (fun hc37 => ?_)
 ·(try simp only [zB, reduceCtorEq] at hc37)
  have hlk : p = (spB 10 s).length - 1 := by have h9 := hc37; omega
  obtain ⟨he1, he2⟩ := tO (rm := rm) (show k = (spB 10 s).length - 1 by omega) hlk
  refine ab fun _ k38 => ?_
  refine af hP hN rfl ?_
  iterate 6 (refine aa rfl fun _ k0 => ?_; simp only [zO, zT, acs, reduceCtorEq, M, E, O, Z, Y, V, Mdl.av, Mdl.cs, ag, ah, aq]; (repeat refine an ?_); (try refine .inl ?_); apply k0; clear k0; simp only [zP, E])
  refine ae ?_
  apply k38; clear k38; refine kp [0, 1, 6, 8, 9, 10, 11, 12, 66, 97] ?_
  refine af hP hN rfl ?_
  iterate 3 (refine aa rfl fun _ k0 => ?_; simp only [zO, zT, acs, reduceCtorEq, M, E, O, Z, Y, V, Mdl.av, Mdl.cs, ag, ah, aq]; (repeat refine an ?_); (try refine .inl ?_); apply k0; clear k0; simp only [zP, E])
  refine ae ?_
  apply k35; clear k35; refine kp [0, 1, 6, 8, 9, 10, 11, 12, 66, 97] ?_
  refine ab fun _ k39 => ?_
  rw [he1, he2]
  refine af hP hN rfl ?_
  (refine aa rfl fun _ k0 => ?_; simp only [zO, zT, acs, reduceCtorEq, M, E, O, Z, Y, V, Mdl.av, Mdl.cs]; (repeat refine an ?_); (try refine .inl ?_); apply k0; clear k0; simp only [zP, E])
  refine aa rfl fun _ k0 => ?_
  refine ax (h := aj (cA s (by omega))) rfl rfl (by first | exact rfl | (simp only [ev, zP, M, E]; exact rfl)) (by simp only [zV, acs, reduceCtorEq, M, E, O, Z, Y, V, Mdl.av, Mdl.cs]) ?_
  apply k0; clear k0; simp only [zP, E]
  iterate 8 (refine aa rfl fun _ k0 => ?_; simp only [zO, zT, acs, reduceCtorEq, M, E, O, Z, Y, V, Mdl.av, Mdl.cs]; (repeat refine an ?_); (try refine .inl ?_); apply k0; clear k0; simp only [zP, E])
  refine ae ?_
  apply k39; clear k39; refine kp [0, 1, 6, 8, 9, 10, 11, 12, 13, 14, 15, 66, 97] ?_
  refine ab fun _ k40 => ?_
  refine af hP hN rfl ?_
  (refine aa rfl fun _ k0 => ?_; simp only [zO, zT, acs, reduceCtorEq, M, E, O, Z, Y, V, Mdl.av, Mdl.cs]; (repeat refine an ?_); (try refine .inl ?_); apply k0; clear k0; simp only [zP, E])
  refine aa rfl fun _ k0 => ?_
  refine ax (h := aj (cA (db (35 :: rm) p (spB 10 s)) (by omega))) rfl rfl (by first | exact rfl | (simp only [ev, zP, M, E]; exact rfl)) (by simp only [zV, acs, reduceCtorEq, M, E, O, Z, Y, V, Mdl.av, Mdl.cs]) ?_
  apply k0; clear k0; simp only [zP, E]
  iterate 8 (refine aa rfl fun _ k0 => ?_; simp only [zO, zT, acs, reduceCtorEq, M, E, O, Z, Y, V, Mdl.av, Mdl.cs]; (repeat refine an ?_); (try refine .inl ?_); apply k0; clear k0; simp only [zP, E])
  refine ae ?_
  apply k40; clear k40; refine kp [0, 1, 6, 8, 9, 10, 11, 12, 13, 14, 15, 16, 17, 18, 66, 97] ?_
  refine ab fun _ k41 => ?_
  refine af hP hN rfl ?_
  (refine aa rfl fun _ k0 => ?_; simp only [zO, zT, acs, reduceCtorEq, M, E, O, Z, Y, V, Mdl.av, Mdl.cs]; (repeat refine an ?_); (try refine .inl ?_); apply k0; clear k0; simp only [zP, E])
  refine aa rfl fun _ k0 => ?_
  refine ax (h := aj (cA (db [] p (spB 10 s)) (by omega))) rfl rfl (by first | exact rfl | (simp only [ev, zP, M, E]; exact rfl)) (by simp only [zV, acs, reduceCtorEq, M, E, O, Z, Y, V, Mdl.av, Mdl.cs]) ?_
  apply k0; clear k0; simp only [zP, E]
  iterate 8 (refine aa rfl fun _ k0 => ?_; simp only [zO, zT, acs, reduceCtorEq, M, E, O, Z, Y, V, Mdl.av, Mdl.cs]; (repeat refine an ?_); (try refine .inl ?_); apply k0; clear k0; simp only [zP, E])
  refine ae ?_
  apply k41; clear k41; refine kp [0, 1, 6, 8, 9, 10, 11, 12, 13, 14, 15, 16, 17, 18, 19, 20, 21, 66, 97] ?_
  refine ab fun _ k42 => ?_
  refine ab fun _ k43 => ?_
  refine af hP hN rfl ?_
  iterate 3 (refine aa rfl fun _ k0 => ?_; simp only [zO, zT, acs, reduceCtorEq, M, E, O, Z, Y, V, Mdl.av, Mdl.cs]; (repeat refine an ?_); (try refine .inl ?_); apply k0; clear k0; simp only [zP, E])
  refine' ar (want := true) 3 rfl (m := 125) (by simp only [zP, M, E]; exact rfl) (by kernel_rfl) rfl rfl rfl rfl rfl (fun hg44 => ?a44) ?b44 ?c44
  case a44 =>
   have hq44 := hg44; (try simp only [zB, reduceCtorEq] at hg44); simp only [zE]
   iterate 3 (refine aJ rfl fun _ k0 => ?_; simp only [zO, zT, acs, reduceCtorEq, M, E, O, Z, Y, V, Mdl.av, Mdl.cs]; (repeat refine an ?_); (try refine .inl ?_); apply k0; clear k0; simp only [zP, E])
   (refine aa rfl fun _ k0 => ?_; simp only [zO, zT, acs, reduceCtorEq, M, E, O, Z, Y, V, Mdl.av, Mdl.cs]; (repeat refine an ?_); (try refine .inl ?_); apply k0; clear k0; simp only [zP, E])
   refine ae ?_
   refine ⟨by simp only [zP, M, E]; exact rfl, rfl, ?_, rfl⟩; (repeat refine au rfl ?_); exact aH (by exact rfl) hq44
  case b44 => exact aU
  simp only [aA, aw]
  refine ae ?_
  apply k43; clear k43; refine kp [0, 1, 6, 8, 9, 10, 11, 12, 13, 14, 15, 16, 17, 18, 19, 20, 21, 66, 97, 129] ?_
  refine cd (fun hc45 => ?_) (fun hc45 => ?_)
  ·(try simp only [zB, reduceCtorEq] at hc45)
   have hsh := hc45
   refine af hP hN rfl ?_
   iterate 3 (refine aa rfl fun _ k0 => ?_; simp only [zO, zT, acs, reduceCtorEq, M, E, O, Z, Y, V, Mdl.av, Mdl.cs]; (repeat refine an ?_); (try refine .inl ?_); apply k0; clear k0; simp only [zP, E])
   refine ae ?_
   apply k42; clear k42; refine kp [0, 1, 6, 8, 9, 10, 11, 12, 13, 14, 15, 16, 17, 18, 19, 20, 21, 66, 97, 129] ?_
   refine ab fun _ k46 => ?_
   refine af hP hN rfl ?_
   iterate 2 (refine aa rfl fun _ k0 => ?_; simp only [zO, zT, acs, reduceCtorEq, M, E, O, Z, Y, V, Mdl.av, Mdl.cs]; (repeat refine an ?_); (try refine .inl ?_); apply k0; clear k0; simp only [zP, E])
   refine aa rfl fun _ k0 => ?_
   refine ax (h := aj (dx (PM s).1 (PM (db (35 :: rm) p (spB 10 s))).1)) rfl rfl (by first | exact rfl | (simp only [ev, zP, M, E]; exact rfl)) (by simp only [zV, acs, reduceCtorEq, M, E, O, Z, Y, V, Mdl.av, Mdl.cs]) ?_
   apply k0; clear k0; simp only [zP, E]
   (refine aa rfl fun _ k0 => ?_; simp only [zO, zT, acs, reduceCtorEq, M, E, O, Z, Y, V, Mdl.av, Mdl.cs]; (repeat refine an ?_); (try refine .inl ?_); apply k0; clear k0; simp only [zP, E])
   refine' ar (want := true) 3 rfl (m := 135) (by simp only [zP, M, E]; exact rfl) (by kernel_rfl) rfl rfl rfl rfl rfl (fun hg47 => ?a47) ?b47 ?c47
   case a47 =>
    have hq47 := hg47; (try simp only [zB, reduceCtorEq] at hg47); simp only [zE]
    iterate 2 (refine aJ rfl fun _ k0 => ?_; simp only [zO, zT, acs, reduceCtorEq, M, E, O, Z, Y, V, Mdl.av, Mdl.cs]; (repeat refine an ?_); (try refine .inl ?_); apply k0; clear k0; simp only [zP, E])
    refine aJ rfl fun _ k0 => ?_
    refine ax (h := aj (dx (PM s).1 (PM (db [] p (spB 10 s))).1)) rfl rfl (by first | exact rfl | (simp only [ev, zP, M, E]; exact rfl)) (by simp only [zV, acs, reduceCtorEq, M, E, O, Z, Y, V, Mdl.av, Mdl.cs]) ?_
    apply k0; clear k0; simp only [zP, E]
    (refine aa rfl fun _ k0 => ?_; simp only [zO, zT, acs, reduceCtorEq, M, E, O, Z, Y, V, Mdl.av, Mdl.cs]; (repeat refine an ?_); (try refine .inl ?_); apply k0; clear k0; simp only [zP, E])
    refine ae ?_
    refine ⟨by simp only [zP, M, E]; exact rfl, rfl, ?_, rfl⟩; (repeat refine au rfl ?_); exact aH (by exact rfl) hq47
   case b47 => exact aU
   simp only [aA, aw]
   (refine aa rfl fun _ k0 => ?_; simp only [zO, zT, acs, reduceCtorEq, M, E, O, Z, Y, V, Mdl.av, Mdl.cs]; (repeat refine an ?_); (try refine .inl ?_); apply k0; clear k0; simp only [zP, E])
   refine' ar (want := true) 3 rfl (m := 140) (by simp only [zP, M, E]; exact rfl) (by kernel_rfl) rfl rfl rfl rfl rfl (fun hg48 => ?a48) ?b48 ?c48
   case a48 =>
    have hq48 := hg48; (try simp only [zB, reduceCtorEq] at hg48); simp only [zE]
    iterate 3 (refine aJ rfl fun _ k0 => ?_; simp only [zO, zT, acs, reduceCtorEq, M, E, O, Z, Y, V, Mdl.av, Mdl.cs]; (repeat refine an ?_); (try refine .inl ?_); apply k0; clear k0; simp only [zP, E])
    (refine aa rfl fun _ k0 => ?_; simp only [zO, zT, acs, reduceCtorEq, M, E, O, Z, Y, V, Mdl.av, Mdl.cs]; (repeat refine an ?_); (try refine .inl ?_); apply k0; clear k0; simp only [zP, E])
    refine ae ?_
    refine ⟨by simp only [zP, M, E]; exact rfl, rfl, ?_, rfl⟩; (repeat refine au rfl ?_); exact aH (by exact rfl) hq48
   case b48 => exact aU
   simp only [aA, aw]
   (refine aa rfl fun _ k0 => ?_; simp only [zO, zT, acs, reduceCtorEq, M, E, O, Z, Y, V, Mdl.av, Mdl.cs]; (repeat refine an ?_); (try refine .inl ?_); apply k0; clear k0; simp only [zP, E])
   refine' ar (want := true) 3 rfl (m := 145) (by simp only [zP, M, E]; exact rfl) (by kernel_rfl) rfl rfl rfl rfl rfl (fun hg49 => ?a49) ?b49 ?c49
   case a49 =>
    have hq49 := hg49; (try simp only [zB, reduceCtorEq] at hg49); simp only [zE]
    iterate 3 (refine aJ rfl fun _ k0 => ?_; simp only [zO, zT, acs, reduceCtorEq, M, E, O, Z, Y, V, Mdl.av, Mdl.cs]; (repeat refine an ?_); (try refine .inl ?_); apply k0; clear k0; simp only [zP, E])
    (refine aa rfl fun _ k0 => ?_; simp only [zO, zT, acs, reduceCtorEq, M, E, O, Z, Y, V, Mdl.av, Mdl.cs]; (repeat refine an ?_); (try refine .inl ?_); apply k0; clear k0; simp only [zP, E])
    refine ae ?_
    refine ⟨by simp only [zP, M, E]; exact rfl, rfl, ?_, rfl⟩; (repeat refine au rfl ?_); exact aH (by exact rfl) hq49
   case b49 => exact aU
   simp only [aA, aw]
   (refine aa rfl fun _ k0 => ?_; simp only [zO, zT, acs, reduceCtorEq, M, E, O, Z, Y, V, Mdl.av, Mdl.cs]; (repeat refine an ?_); (try refine .inl ?_); apply k0; clear k0; simp only [zP, E])
   refine' ar (want := true) 3 rfl (m := 150) (by simp only [zP, M, E]; exact rfl) (by kernel_rfl) rfl rfl rfl rfl rfl (fun hg50 => ?a50) ?b50 ?c50
   case a50 =>
    have hq50 := hg50; (try simp only [zB, reduceCtorEq] at hg50); simp only [zE]
    iterate 3 (refine aJ rfl fun _ k0 => ?_; simp only [zO, zT, acs, reduceCtorEq, M, E, O, Z, Y, V, Mdl.av, Mdl.cs]; (repeat refine an ?_); (try refine .inl ?_); apply k0; clear k0; simp only [zP, E])
    (refine aa rfl fun _ k0 => ?_; simp only [zO, zT, acs, reduceCtorEq, M, E, O, Z, Y, V, Mdl.av, Mdl.cs]; (repeat refine an ?_); (try refine .inl ?_); apply k0; clear k0; simp only [zP, E])
    refine ae ?_
    refine ⟨by simp only [zP, M, E]; exact rfl, rfl, ?_, rfl⟩; (repeat refine au rfl ?_); exact aH (by exact rfl) hq50
   case b50 => exact aU
   simp only [aA, aw]
   (refine aa rfl fun _ k0 => ?_; simp only [zO, zT, acs, reduceCtorEq, M, E, O, Z, Y, V, Mdl.av, Mdl.cs]; (repeat refine an ?_); (try refine .inl ?_); apply k0; clear k0; simp only [zP, E])
   refine' ar (want := true) 3 rfl (m := 155) (by simp only [zP, M, E]; exact rfl) (by kernel_rfl) rfl rfl rfl rfl rfl (fun hg51 => ?a51) ?b51 ?c51
   case a51 =>
    have hq51 := hg51; (try simp only [zB, reduceCtorEq] at hg51); simp only [zE]
    iterate 3 (refine aJ rfl fun _ k0 => ?_; simp only [zO, zT, acs, reduceCtorEq, M, E, O, Z, Y, V, Mdl.av, Mdl.cs]; (repeat refine an ?_); (try refine .inl ?_); apply k0; clear k0; simp only [zP, E])
    (refine aa rfl fun _ k0 => ?_; simp only [zO, zT, acs, reduceCtorEq, M, E, O, Z, Y, V, Mdl.av, Mdl.cs]; (repeat refine an ?_); (try refine .inl ?_); apply k0; clear k0; simp only [zP, E])
    refine ae ?_
    refine ⟨by simp only [zP, M, E]; exact rfl, rfl, ?_, rfl⟩; (repeat refine au rfl ?_); exact aH (by exact rfl) hq51
   case b51 => exact aU
   simp only [aA, aw]
   (refine aa rfl fun _ k0 => ?_; simp only [zO, zT, acs, reduceCtorEq, M, E, O, Z, Y, V, Mdl.av, Mdl.cs]; (repeat refine an ?_); (try refine .inl ?_); apply k0; clear k0; simp only [zP, E])
   refine' ar (want := true) 1 rfl (m := 160) (by simp only [zP, M, E]; exact rfl) (by kernel_rfl) rfl rfl rfl rfl rfl (fun hg52 => ?a52) ?b52 ?c52
   case a52 =>
    have hq52 := hg52; (try simp only [zB, reduceCtorEq] at hg52); simp only [zE]
    refine aJ rfl fun _ k0 => ?_
    refine ax (h := aj dJ) rfl rfl (by first | exact rfl | (simp only [ev, zP, M, E]; exact rfl)) (by simp only [zV, acs, reduceCtorEq, M, E, O, Z, Y, V, Mdl.av, Mdl.cs]) ?_
    apply k0; clear k0; simp only [zP, E]
    (refine aa rfl fun _ k0 => ?_; simp only [zO, zT, acs, reduceCtorEq, M, E, O, Z, Y, V, Mdl.av, Mdl.cs]; (repeat refine an ?_); (try refine .inl ?_); apply k0; clear k0; simp only [zP, E])
    refine ae ?_
    refine ⟨by simp only [zP, M, E]; exact rfl, rfl, ?_, rfl⟩; (repeat refine au rfl ?_); exact aH (by exact rfl) hq52
   case b52 => exact aU
   simp only [aA, aw]
   (refine aa rfl fun _ k0 => ?_; simp only [zO, zT, acs, reduceCtorEq, M, E, O, Z, Y, V, Mdl.av, Mdl.cs]; (repeat refine an ?_); (try refine .inl ?_); apply k0; clear k0; simp only [zP, E])
   refine ae ?_
   apply k46; clear k46; refine kp [0, 1, 6, 8, 9, 10, 11, 12, 13, 14, 15, 16, 17, 18, 19, 20, 21, 66, 97, 129] ?_
   refine ay ?_
   refine ⟨nr, _, rfl, ?_⟩; simp only [zF, zP, M, E, Mdl.av, Mdl.cs]
   refine VLE.of_eq ?_
   first
   | rfl
   | (rw [hp1, hp2, js hsh]; simp [bJ]; done)
   | (rw [hp1, hp2, j9 (by omega)]; simp [bJ]; done)
  (try simp only [zB, reduceCtorEq] at hc45)
  have hsh := hc45
  refine az ?_
  apply k42; clear k42; refine kp [0, 1, 6, 8, 9, 10, 11, 12, 13, 14, 15, 16, 17, 18, 19, 20, 21, 66, 97, 129] ?_
  refine ab fun _ k53 => ?_
  refine af hP hN rfl ?_
  iterate 2 (refine aa rfl fun _ k0 => ?_; simp only [zO, zT, acs, reduceCtorEq, M, E, O, Z, Y, V, Mdl.av, Mdl.cs]; (repeat refine an ?_); (try refine .inl ?_); apply k0; clear k0; simp only [zP, E])
  refine aa rfl fun _ k0 => ?_
  refine ax (h := aj (dx (PM s).1 (PM (db (35 :: rm) p (spB 10 s))).1)) rfl rfl (by first | exact rfl | (simp only [ev, zP, M, E]; exact rfl)) (by simp only [zV, acs, reduceCtorEq, M, E, O, Z, Y, V, Mdl.av, Mdl.cs]) ?_
  apply k0; clear k0; simp only [zP, E]
  (refine aa rfl fun _ k0 => ?_; simp only [zO, zT, acs, reduceCtorEq, M, E, O, Z, Y, V, Mdl.av, Mdl.cs]; (repeat refine an ?_); (try refine .inl ?_); apply k0; clear k0; simp only [zP, E])
  refine' ar (want := true) 3 rfl (m := 135) (by simp only [zP, M, E]; exact rfl) (by kernel_rfl) rfl rfl rfl rfl rfl (fun hg54 => ?a54) ?b54 ?c54
  case a54 =>
   have hq54 := hg54; (try simp only [zB, reduceCtorEq] at hg54); simp only [zE]
   iterate 2 (refine aJ rfl fun _ k0 => ?_; simp only [zO, zT, acs, reduceCtorEq, M, E, O, Z, Y, V, Mdl.av, Mdl.cs]; (repeat refine an ?_); (try refine .inl ?_); apply k0; clear k0; simp only [zP, E])
   refine aJ rfl fun _ k0 => ?_
   refine ax (h := aj (dx (PM s).1 (PM (db [] p (spB 10 s))).1)) rfl rfl (by first | exact rfl | (simp only [ev, zP, M, E]; exact rfl)) (by simp only [zV, acs, reduceCtorEq, M, E, O, Z, Y, V, Mdl.av, Mdl.cs]) ?_
   apply k0; clear k0; simp only [zP, E]
   (refine aa rfl fun _ k0 => ?_; simp only [zO, zT, acs, reduceCtorEq, M, E, O, Z, Y, V, Mdl.av, Mdl.cs]; (repeat refine an ?_); (try refine .inl ?_); apply k0; clear k0; simp only [zP, E])
   refine ae ?_
   refine ⟨by simp only [zP, M, E]; exact rfl, rfl, ?_, rfl⟩; (repeat refine au rfl ?_); exact aH (by exact rfl) hq54
  case b54 => exact aU
  simp only [aA, aw]
  (refine aa rfl fun _ k0 => ?_; simp only [zO, zT, acs, reduceCtorEq, M, E, O, Z, Y, V, Mdl.av, Mdl.cs]; (repeat refine an ?_); (try refine .inl ?_); apply k0; clear k0; simp only [zP, E])
  refine' ar (want := true) 3 rfl (m := 140) (by simp only [zP, M, E]; exact rfl) (by kernel_rfl) rfl rfl rfl rfl rfl (fun hg55 => ?a55) ?b55 ?c55
  case a55 =>
   have hq55 := hg55; (try simp only [zB, reduceCtorEq] at hg55); simp only [zE]
   iterate 3 (refine aJ rfl fun _ k0 => ?_; simp only [zO, zT, acs, reduceCtorEq, M, E, O, Z, Y, V, Mdl.av, Mdl.cs]; (repeat refine an ?_); (try refine .inl ?_); apply k0; clear k0; simp only [zP, E])
   (refine aa rfl fun _ k0 => ?_; simp only [zO, zT, acs, reduceCtorEq, M, E, O, Z, Y, V, Mdl.av, Mdl.cs]; (repeat refine an ?_); (try refine .inl ?_); apply k0; clear k0; simp only [zP, E])
   refine ae ?_
   refine ⟨by simp only [zP, M, E]; exact rfl, rfl, ?_, rfl⟩; (repeat refine au rfl ?_); exact aH (by exact rfl) hq55
  case b55 => exact aU
  simp only [aA, aw]
  (refine aa rfl fun _ k0 => ?_; simp only [zO, zT, acs, reduceCtorEq, M, E, O, Z, Y, V, Mdl.av, Mdl.cs]; (repeat refine an ?_); (try refine .inl ?_); apply k0; clear k0; simp only [zP, E])
  refine' ar (want := true) 3 rfl (m := 145) (by simp only [zP, M, E]; exact rfl) (by kernel_rfl) rfl rfl rfl rfl rfl (fun hg56 => ?a56) ?b56 ?c56
  case a56 =>
   have hq56 := hg56; (try simp only [zB, reduceCtorEq] at hg56); simp only [zE]
   iterate 3 (refine aJ rfl fun _ k0 => ?_; simp only [zO, zT, acs, reduceCtorEq, M, E, O, Z, Y, V, Mdl.av, Mdl.cs]; (repeat refine an ?_); (try refine .inl ?_); apply k0; clear k0; simp only [zP, E])
   (refine aa rfl fun _ k0 => ?_; simp only [zO, zT, acs, reduceCtorEq, M, E, O, Z, Y, V, Mdl.av, Mdl.cs]; (repeat refine an ?_); (try refine .inl ?_); apply k0; clear k0; simp only [zP, E])
   refine ae ?_
   refine ⟨by simp only [zP, M, E]; exact rfl, rfl, ?_, rfl⟩; (repeat refine au rfl ?_); exact aH (by exact rfl) hq56
  case b56 => exact aU
  simp only [aA, aw]
  (refine aa rfl fun _ k0 => ?_; simp only [zO, zT, acs, reduceCtorEq, M, E, O, Z, Y, V, Mdl.av, Mdl.cs]; (repeat refine an ?_); (try refine .inl ?_); apply k0; clear k0; simp only [zP, E])
  refine' ar (want := true) 3 rfl (m := 150) (by simp only [zP, M, E]; exact rfl) (by kernel_rfl) rfl rfl rfl rfl rfl (fun hg57 => ?a57) ?b57 ?c57
  case a57 =>
   have hq57 := hg57; (try simp only [zB, reduceCtorEq] at hg57); simp only [zE]
   iterate 3 (refine aJ rfl fun _ k0 => ?_; simp only [zO, zT, acs, reduceCtorEq, M, E, O, Z, Y, V, Mdl.av, Mdl.cs]; (repeat refine an ?_); (try refine .inl ?_); apply k0; clear k0; simp only [zP, E])
   (refine aa rfl fun _ k0 => ?_; simp only [zO, zT, acs, reduceCtorEq, M, E, O, Z, Y, V, Mdl.av, Mdl.cs]; (repeat refine an ?_); (try refine .inl ?_); apply k0; clear k0; simp only [zP, E])
   refine ae ?_
   refine ⟨by simp only [zP, M, E]; exact rfl, rfl, ?_, rfl⟩; (repeat refine au rfl ?_); exact aH (by exact rfl) hq57
  case b57 => exact aU
  simp only [aA, aw]
  (refine aa rfl fun _ k0 => ?_; simp only [zO, zT, acs, reduceCtorEq, M, E, O, Z, Y, V, Mdl.av, Mdl.cs]; (repeat refine an ?_); (try refine .inl ?_); apply k0; clear k0; simp only [zP, E])
  refine' ar (want := true) 3 rfl (m := 155) (by simp only [zP, M, E]; exact rfl) (by kernel_rfl) rfl rfl rfl rfl rfl (fun hg58 => ?a58) ?b58 ?c58
  case a58 =>
   have hq58 := hg58; (try simp only [zB, reduceCtorEq] at hg58); simp only [zE]
   iterate 3 (refine aJ rfl fun _ k0 => ?_; simp only [zO, zT, acs, reduceCtorEq, M, E, O, Z, Y, V, Mdl.av, Mdl.cs]; (repeat refine an ?_); (try refine .inl ?_); apply k0; clear k0; simp only [zP, E])
   (refine aa rfl fun _ k0 => ?_; simp only [zO, zT, acs, reduceCtorEq, M, E, O, Z, Y, V, Mdl.av, Mdl.cs]; (repeat refine an ?_); (try refine .inl ?_); apply k0; clear k0; simp only [zP, E])
   refine ae ?_
   refine ⟨by simp only [zP, M, E]; exact rfl, rfl, ?_, rfl⟩; (repeat refine au rfl ?_); exact aH (by exact rfl) hq58
  case b58 => exact aU
  simp only [aA, aw]
  (refine aa rfl fun _ k0 => ?_; simp only [zO, zT, acs, reduceCtorEq, M, E, O, Z, Y, V, Mdl.av, Mdl.cs]; (repeat refine an ?_); (try refine .inl ?_); apply k0; clear k0; simp only [zP, E])
  refine' ar (want := true) 1 rfl (m := 160) (by simp only [zP, M, E]; exact rfl) (by kernel_rfl) rfl rfl rfl rfl rfl (fun hg59 => ?a59) ?b59 ?c59
  case a59 =>
   have hq59 := hg59; (try simp only [zB, reduceCtorEq] at hg59); simp only [zE]
   refine aJ rfl fun _ k0 => ?_
   refine ax (h := aj dJ) rfl rfl (by first | exact rfl | (simp only [ev, zP, M, E]; exact rfl)) (by simp only [zV, acs, reduceCtorEq, M, E, O, Z, Y, V, Mdl.av, Mdl.cs]) ?_
   apply k0; clear k0; simp only [zP, E]
   (refine aa rfl fun _ k0 => ?_; simp only [zO, zT, acs, reduceCtorEq, M, E, O, Z, Y, V, Mdl.av, Mdl.cs]; (repeat refine an ?_); (try refine .inl ?_); apply k0; clear k0; simp only [zP, E])
   refine ae ?_
   refine ⟨by simp only [zP, M, E]; exact rfl, rfl, ?_, rfl⟩; (repeat refine au rfl ?_); exact aH (by exact rfl) hq59
  case b59 => exact aU
  simp only [aA, aw]
  (refine aa rfl fun _ k0 => ?_; simp only [zO, zT, acs, reduceCtorEq, M, E, O, Z, Y, V, Mdl.av, Mdl.cs]; (repeat refine an ?_); (try refine .inl ?_); apply k0; clear k0; simp only [zP, E])
  refine ae ?_
  apply k53; clear k53; refine kp [0, 1, 6, 8, 9, 10, 11, 12, 13, 14, 15, 16, 17, 18, 19, 20, 21, 66, 97, 129] ?_
  refine ay ?_
  refine ⟨nr, _, rfl, ?_⟩; simp only [zF, zP, M, E, Mdl.av, Mdl.cs]
  refine VLE.of_eq ?_
  first
  | rfl
  | (rw [hp1, hp2, js hsh]; simp [bJ]; done)
  | (rw [hp1, hp2, j9 (by omega)]; simp [bJ]; done)
 (try simp only [zB, reduceCtorEq] at hc37)
 have hlk : ¬ p = (spB 10 s).length - 1 := by have h9 := hc37; omega
 obtain ⟨he1, he2⟩ := tG (rm := rm) (show k = (spB 10 s).length - 1 by omega) hlk
 refine az ?_
 apply k35; clear k35; refine kp [0, 1, 6, 8, 9, 10, 11, 12, 66, 97] ?_
 refine ab fun _ k60 => ?_
 rw [he1, he2]
 refine af hP hN rfl ?_
 (refine aa rfl fun _ k0 => ?_; simp only [zO, zT, acs, reduceCtorEq, M, E, O, Z, Y, V, Mdl.av, Mdl.cs]; (repeat refine an ?_); (try refine .inl ?_); apply k0; clear k0; simp only [zP, E])
 refine aa rfl fun _ k0 => ?_
 refine ax (h := aj (cA s (by omega))) rfl rfl (by first | exact rfl | (simp only [ev, zP, M, E]; exact rfl)) (by simp only [zV, acs, reduceCtorEq, M, E, O, Z, Y, V, Mdl.av, Mdl.cs]) ?_
 apply k0; clear k0; simp only [zP, E]
 iterate 8 (refine aa rfl fun _ k0 => ?_; simp only [zO, zT, acs, reduceCtorEq, M, E, O, Z, Y, V, Mdl.av, Mdl.cs]; (repeat refine an ?_); (try refine .inl ?_); apply k0; clear k0; simp only [zP, E])
 refine ae ?_
 apply k60; clear k60; refine kp [0, 1, 6, 8, 9, 10, 11, 12, 13, 14, 15, 66, 97] ?_
 refine ab fun _ k61 => ?_
 refine af hP hN rfl ?_
 (refine aa rfl fun _ k0 => ?_; simp only [zO, zT, acs, reduceCtorEq, M, E, O, Z, Y, V, Mdl.av, Mdl.cs]; (repeat refine an ?_); (try refine .inl ?_); apply k0; clear k0; simp only [zP, E])
 refine aa rfl fun _ k0 => ?_
 refine ax (h := aj (cA (db (35 :: rm) p (spB 10 s)) (by omega))) rfl rfl (by first | exact rfl | (simp only [ev, zP, M, E]; exact rfl)) (by simp only [zV, acs, reduceCtorEq, M, E, O, Z, Y, V, Mdl.av, Mdl.cs]) ?_
 apply k0; clear k0; simp only [zP, E]
 iterate 8 (refine aa rfl fun _ k0 => ?_; simp only [zO, zT, acs, reduceCtorEq, M, E, O, Z, Y, V, Mdl.av, Mdl.cs]; (repeat refine an ?_); (try refine .inl ?_); apply k0; clear k0; simp only [zP, E])
 refine ae ?_
 apply k61; clear k61; refine kp [0, 1, 6, 8, 9, 10, 11, 12, 13, 14, 15, 16, 17, 18, 66, 97] ?_
 refine ab fun _ k62 => ?_
 refine af hP hN rfl ?_
 (refine aa rfl fun _ k0 => ?_; simp only [zO, zT, acs, reduceCtorEq, M, E, O, Z, Y, V, Mdl.av, Mdl.cs]; (repeat refine an ?_); (try refine .inl ?_); apply k0; clear k0; simp only [zP, E])
 refine aa rfl fun _ k0 => ?_
 refine ax (h := aj (cA (db [] p (spB 10 s)) (by omega))) rfl rfl (by first | exact rfl | (simp only [ev, zP, M, E]; exact rfl)) (by simp only [zV, acs, reduceCtorEq, M, E, O, Z, Y, V, Mdl.av, Mdl.cs]) ?_
 apply k0; clear k0; simp only [zP, E]
 iterate 8 (refine aa rfl fun _ k0 => ?_; simp only [zO, zT, acs, reduceCtorEq, M, E, O, Z, Y, V, Mdl.av, Mdl.cs]; (repeat refine an ?_); (try refine .inl ?_); apply k0; clear k0; simp only [zP, E])
 refine ae ?_
 apply k62; clear k62; refine kp [0, 1, 6, 8, 9, 10, 11, 12, 13, 14, 15, 16, 17, 18, 19, 20, 21, 66, 97] ?_
 refine ab fun _ k63 => ?_
 refine ab fun _ k64 => ?_
 refine af hP hN rfl ?_
 iterate 3 (refine aa rfl fun _ k0 => ?_; simp only [zO, zT, acs, reduceCtorEq, M, E, O, Z, Y, V, Mdl.av, Mdl.cs]; (repeat refine an ?_); (try refine .inl ?_); apply k0; clear k0; simp only [zP, E])
 refine' ar (want := true) 3 rfl (m := 125) (by simp only [zP, M, E]; exact rfl) (by kernel_rfl) rfl rfl rfl rfl rfl (fun hg65 => ?a65) ?b65 ?c65
 case a65 =>
  have hq65 := hg65; (try simp only [zB, reduceCtorEq] at hg65); simp only [zE]
  iterate 3 (refine aJ rfl fun _ k0 => ?_; simp only [zO, zT, acs, reduceCtorEq, M, E, O, Z, Y, V, Mdl.av, Mdl.cs]; (repeat refine an ?_); (try refine .inl ?_); apply k0; clear k0; simp only [zP, E])
  (refine aa rfl fun _ k0 => ?_; simp only [zO, zT, acs, reduceCtorEq, M, E, O, Z, Y, V, Mdl.av, Mdl.cs]; (repeat refine an ?_); (try refine .inl ?_); apply k0; clear k0; simp only [zP, E])
  refine ae ?_
  refine ⟨by simp only [zP, M, E]; exact rfl, rfl, ?_, rfl⟩; (repeat refine au rfl ?_); exact aH (by exact rfl) hq65
 case b65 => exact aU
 simp only [aA, aw]
 refine ae ?_
 apply k64; clear k64; refine kp [0, 1, 6, 8, 9, 10, 11, 12, 13, 14, 15, 16, 17, 18, 19, 20, 21, 66, 97, 129] ?_
 refine cd (fun hc66 => ?_) (fun hc66 => ?_)
 ·(try simp only [zB, reduceCtorEq] at hc66)
  have hsh := hc66
  refine af hP hN rfl ?_
  iterate 3 (refine aa rfl fun _ k0 => ?_; simp only [zO, zT, acs, reduceCtorEq, M, E, O, Z, Y, V, Mdl.av, Mdl.cs]; (repeat refine an ?_); (try refine .inl ?_); apply k0; clear k0; simp only [zP, E])
  refine ae ?_
  apply k63; clear k63; refine kp [0, 1, 6, 8, 9, 10, 11, 12, 13, 14, 15, 16, 17, 18, 19, 20, 21, 66, 97, 129] ?_
  refine ab fun _ k67 => ?_
  refine af hP hN rfl ?_
  iterate 2 (refine aa rfl fun _ k0 => ?_; simp only [zO, zT, acs, reduceCtorEq, M, E, O, Z, Y, V, Mdl.av, Mdl.cs]; (repeat refine an ?_); (try refine .inl ?_); apply k0; clear k0; simp only [zP, E])
  refine aa rfl fun _ k0 => ?_
  refine ax (h := aj (dx (PM s).1 (PM (db (35 :: rm) p (spB 10 s))).1)) rfl rfl (by first | exact rfl | (simp only [ev, zP, M, E]; exact rfl)) (by simp only [zV, acs, reduceCtorEq, M, E, O, Z, Y, V, Mdl.av, Mdl.cs]) ?_
  apply k0; clear k0; simp only [zP, E]
  (refine aa rfl fun _ k0 => ?_; simp only [zO, zT, acs, reduceCtorEq, M, E, O, Z, Y, V, Mdl.av, Mdl.cs]; (repeat refine an ?_); (try refine .inl ?_); apply k0; clear k0; simp only [zP, E])
  refine' ar (want := true) 3 rfl (m := 135) (by simp only [zP, M, E]; exact rfl) (by kernel_rfl) rfl rfl rfl rfl rfl (fun hg68 => ?a68) ?b68 ?c68
  case a68 =>
   have hq68 := hg68; (try simp only [zB, reduceCtorEq] at hg68); simp only [zE]
   iterate 2 (refine aJ rfl fun _ k0 => ?_; simp only [zO, zT, acs, reduceCtorEq, M, E, O, Z, Y, V, Mdl.av, Mdl.cs]; (repeat refine an ?_); (try refine .inl ?_); apply k0; clear k0; simp only [zP, E])
   refine aJ rfl fun _ k0 => ?_
   refine ax (h := aj (dx (PM s).1 (PM (db [] p (spB 10 s))).1)) rfl rfl (by first | exact rfl | (simp only [ev, zP, M, E]; exact rfl)) (by simp only [zV, acs, reduceCtorEq, M, E, O, Z, Y, V, Mdl.av, Mdl.cs]) ?_
   apply k0; clear k0; simp only [zP, E]
   (refine aa rfl fun _ k0 => ?_; simp only [zO, zT, acs, reduceCtorEq, M, E, O, Z, Y, V, Mdl.av, Mdl.cs]; (repeat refine an ?_); (try refine .inl ?_); apply k0; clear k0; simp only [zP, E])
   refine ae ?_
   refine ⟨by simp only [zP, M, E]; exact rfl, rfl, ?_, rfl⟩; (repeat refine au rfl ?_); exact aH (by exact rfl) hq68
  case b68 => exact aU
  simp only [aA, aw]
  (refine aa rfl fun _ k0 => ?_; simp only [zO, zT, acs, reduceCtorEq, M, E, O, Z, Y, V, Mdl.av, Mdl.cs]; (repeat refine an ?_); (try refine .inl ?_); apply k0; clear k0; simp only [zP, E])
  refine' ar (want := true) 3 rfl (m := 140) (by simp only [zP, M, E]; exact rfl) (by kernel_rfl) rfl rfl rfl rfl rfl (fun hg69 => ?a69) ?b69 ?c69
  case a69 =>
   have hq69 := hg69; (try simp only [zB, reduceCtorEq] at hg69); simp only [zE]
   iterate 3 (refine aJ rfl fun _ k0 => ?_; simp only [zO, zT, acs, reduceCtorEq, M, E, O, Z, Y, V, Mdl.av, Mdl.cs]; (repeat refine an ?_); (try refine .inl ?_); apply k0; clear k0; simp only [zP, E])
   (refine aa rfl fun _ k0 => ?_; simp only [zO, zT, acs, reduceCtorEq, M, E, O, Z, Y, V, Mdl.av, Mdl.cs]; (repeat refine an ?_); (try refine .inl ?_); apply k0; clear k0; simp only [zP, E])
   refine ae ?_
   refine ⟨by simp only [zP, M, E]; exact rfl, rfl, ?_, rfl⟩; (repeat refine au rfl ?_); exact aH (by exact rfl) hq69
  case b69 => exact aU
  simp only [aA, aw]
  (refine aa rfl fun _ k0 => ?_; simp only [zO, zT, acs, reduceCtorEq, M, E, O, Z, Y, V, Mdl.av, Mdl.cs]; (repeat refine an ?_); (try refine .inl ?_); apply k0; clear k0; simp only [zP, E])
  refine' ar (want := true) 3 rfl (m := 145) (by simp only [zP, M, E]; exact rfl) (by kernel_rfl) rfl rfl rfl rfl rfl (fun hg70 => ?a70) ?b70 ?c70
  case a70 =>
   have hq70 := hg70; (try simp only [zB, reduceCtorEq] at hg70); simp only [zE]
   iterate 3 (refine aJ rfl fun _ k0 => ?_; simp only [zO, zT, acs, reduceCtorEq, M, E, O, Z, Y, V, Mdl.av, Mdl.cs]; (repeat refine an ?_); (try refine .inl ?_); apply k0; clear k0; simp only [zP, E])
   (refine aa rfl fun _ k0 => ?_; simp only [zO, zT, acs, reduceCtorEq, M, E, O, Z, Y, V, Mdl.av, Mdl.cs]; (repeat refine an ?_); (try refine .inl ?_); apply k0; clear k0; simp only [zP, E])
   refine ae ?_
   refine ⟨by simp only [zP, M, E]; exact rfl, rfl, ?_, rfl⟩; (repeat refine au rfl ?_); exact aH (by exact rfl) hq70
  case b70 => exact aU
  simp only [aA, aw]
  (refine aa rfl fun _ k0 => ?_; simp only [zO, zT, acs, reduceCtorEq, M, E, O, Z, Y, V, Mdl.av, Mdl.cs]; (repeat refine an ?_); (try refine .inl ?_); apply k0; clear k0; simp only [zP, E])
  refine' ar (want := true) 3 rfl (m := 150) (by simp only [zP, M, E]; exact rfl) (by kernel_rfl) rfl rfl rfl rfl rfl (fun hg71 => ?a71) ?b71 ?c71
  case a71 =>
   have hq71 := hg71; (try simp only [zB, reduceCtorEq] at hg71); simp only [zE]
   iterate 3 (refine aJ rfl fun _ k0 => ?_; simp only [zO, zT, acs, reduceCtorEq, M, E, O, Z, Y, V, Mdl.av, Mdl.cs]; (repeat refine an ?_); (try refine .inl ?_); apply k0; clear k0; simp only [zP, E])
   (refine aa rfl fun _ k0 => ?_; simp only [zO, zT, acs, reduceCtorEq, M, E, O, Z, Y, V, Mdl.av, Mdl.cs]; (repeat refine an ?_); (try refine .inl ?_); apply k0; clear k0; simp only [zP, E])
   refine ae ?_
   refine ⟨by simp only [zP, M, E]; exact rfl, rfl, ?_, rfl⟩; (repeat refine au rfl ?_); exact aH (by exact rfl) hq71
  case b71 => exact aU
  simp only [aA, aw]
  (refine aa rfl fun _ k0 => ?_; simp only [zO, zT, acs, reduceCtorEq, M, E, O, Z, Y, V, Mdl.av, Mdl.cs]; (repeat refine an ?_); (try refine .inl ?_); apply k0; clear k0; simp only [zP, E])
  refine' ar (want := true) 3 rfl (m := 155) (by simp only [zP, M, E]; exact rfl) (by kernel_rfl) rfl rfl rfl rfl rfl (fun hg72 => ?a72) ?b72 ?c72
  case a72 =>
   have hq72 := hg72; (try simp only [zB, reduceCtorEq] at hg72); simp only [zE]
   iterate 3 (refine aJ rfl fun _ k0 => ?_; simp only [zO, zT, acs, reduceCtorEq, M, E, O, Z, Y, V, Mdl.av, Mdl.cs]; (repeat refine an ?_); (try refine .inl ?_); apply k0; clear k0; simp only [zP, E])
   (refine aa rfl fun _ k0 => ?_; simp only [zO, zT, acs, reduceCtorEq, M, E, O, Z, Y, V, Mdl.av, Mdl.cs]; (repeat refine an ?_); (try refine .inl ?_); apply k0; clear k0; simp only [zP, E])
   refine ae ?_
   refine ⟨by simp only [zP, M, E]; exact rfl, rfl, ?_, rfl⟩; (repeat refine au rfl ?_); exact aH (by exact rfl) hq72
  case b72 => exact aU
  simp only [aA, aw]
  (refine aa rfl fun _ k0 => ?_; simp only [zO, zT, acs, reduceCtorEq, M, E, O, Z, Y, V, Mdl.av, Mdl.cs]; (repeat refine an ?_); (try refine .inl ?_); apply k0; clear k0; simp only [zP, E])
  refine' ar (want := true) 1 rfl (m := 160) (by simp only [zP, M, E]; exact rfl) (by kernel_rfl) rfl rfl rfl rfl rfl (fun hg73 => ?a73) ?b73 ?c73
  case a73 =>
   have hq73 := hg73; (try simp only [zB, reduceCtorEq] at hg73); simp only [zE]
   refine aJ rfl fun _ k0 => ?_
   refine ax (h := aj dJ) rfl rfl (by first | exact rfl | (simp only [ev, zP, M, E]; exact rfl)) (by simp only [zV, acs, reduceCtorEq, M, E, O, Z, Y, V, Mdl.av, Mdl.cs]) ?_
   apply k0; clear k0; simp only [zP, E]
   (refine aa rfl fun _ k0 => ?_; simp only [zO, zT, acs, reduceCtorEq, M, E, O, Z, Y, V, Mdl.av, Mdl.cs]; (repeat refine an ?_); (try refine .inl ?_); apply k0; clear k0; simp only [zP, E])
   refine ae ?_
   refine ⟨by simp only [zP, M, E]; exact rfl, rfl, ?_, rfl⟩; (repeat refine au rfl ?_); exact aH (by exact rfl) hq73
  case b73 => exact aU
  simp only [aA, aw]
  (refine aa rfl fun _ k0 => ?_; simp only [zO, zT, acs, reduceCtorEq, M, E, O, Z, Y, V, Mdl.av, Mdl.cs]; (repeat refine an ?_); (try refine .inl ?_); apply k0; clear k0; simp only [zP, E])
  refine ae ?_
  apply k67; clear k67; refine kp [0, 1, 6, 8, 9, 10, 11, 12, 13, 14, 15, 16, 17, 18, 19, 20, 21, 66, 97, 129] ?_
  refine ay ?_
  refine ⟨nr, _, rfl, ?_⟩; simp only [zF, zP, M, E, Mdl.av, Mdl.cs]
  refine VLE.of_eq ?_
  first
  | rfl
  | (rw [hp1, hp2, js hsh]; simp [bJ]; done)
  | (rw [hp1, hp2, j9 (by omega)]; simp [bJ]; done)
 (try simp only [zB, reduceCtorEq] at hc66)
 have hsh := hc66
 refine az ?_
 apply k63; clear k63; refine kp [0, 1, 6, 8, 9, 10, 11, 12, 13, 14, 15, 16, 17, 18, 19, 20, 21, 66, 97, 129] ?_
 refine ab fun _ k74 => ?_
 refine af hP hN rfl ?_
 iterate 2 (refine aa rfl fun _ k0 => ?_; simp only [zO, zT, acs, reduceCtorEq, M, E, O, Z, Y, V, Mdl.av, Mdl.cs]; (repeat refine an ?_); (try refine .inl ?_); apply k0; clear k0; simp only [zP, E])
 refine aa rfl fun _ k0 => ?_
 refine ax (h := aj (dx (PM s).1 (PM (db (35 :: rm) p (spB 10 s))).1)) rfl rfl (by first | exact rfl | (simp only [ev, zP, M, E]; exact rfl)) (by simp only [zV, acs, reduceCtorEq, M, E, O, Z, Y, V, Mdl.av, Mdl.cs]) ?_
 apply k0; clear k0; simp only [zP, E]
 (refine aa rfl fun _ k0 => ?_; simp only [zO, zT, acs, reduceCtorEq, M, E, O, Z, Y, V, Mdl.av, Mdl.cs]; (repeat refine an ?_); (try refine .inl ?_); apply k0; clear k0; simp only [zP, E])
 refine' ar (want := true) 3 rfl (m := 135) (by simp only [zP, M, E]; exact rfl) (by kernel_rfl) rfl rfl rfl rfl rfl (fun hg75 => ?a75) ?b75 ?c75
 case a75 =>
  have hq75 := hg75; (try simp only [zB, reduceCtorEq] at hg75); simp only [zE]
  iterate 2 (refine aJ rfl fun _ k0 => ?_; simp only [zO, zT, acs, reduceCtorEq, M, E, O, Z, Y, V, Mdl.av, Mdl.cs]; (repeat refine an ?_); (try refine .inl ?_); apply k0; clear k0; simp only [zP, E])
  refine aJ rfl fun _ k0 => ?_
  refine ax (h := aj (dx (PM s).1 (PM (db [] p (spB 10 s))).1)) rfl rfl (by first | exact rfl | (simp only [ev, zP, M, E]; exact rfl)) (by simp only [zV, acs, reduceCtorEq, M, E, O, Z, Y, V, Mdl.av, Mdl.cs]) ?_
  apply k0; clear k0; simp only [zP, E]
  (refine aa rfl fun _ k0 => ?_; simp only [zO, zT, acs, reduceCtorEq, M, E, O, Z, Y, V, Mdl.av, Mdl.cs]; (repeat refine an ?_); (try refine .inl ?_); apply k0; clear k0; simp only [zP, E])
  refine ae ?_
  refine ⟨by simp only [zP, M, E]; exact rfl, rfl, ?_, rfl⟩; (repeat refine au rfl ?_); exact aH (by exact rfl) hq75
 case b75 => exact aU
 simp only [aA, aw]
 (refine aa rfl fun _ k0 => ?_; simp only [zO, zT, acs, reduceCtorEq, M, E, O, Z, Y, V, Mdl.av, Mdl.cs]; (repeat refine an ?_); (try refine .inl ?_); apply k0; clear k0; simp only [zP, E])
 refine' ar (want := true) 3 rfl (m := 140) (by simp only [zP, M, E]; exact rfl) (by kernel_rfl) rfl rfl rfl rfl rfl (fun hg76 => ?a76) ?b76 ?c76
 case a76 =>
  have hq76 := hg76; (try simp only [zB, reduceCtorEq] at hg76); simp only [zE]
  iterate 3 (refine aJ rfl fun _ k0 => ?_; simp only [zO, zT, acs, reduceCtorEq, M, E, O, Z, Y, V, Mdl.av, Mdl.cs]; (repeat refine an ?_); (try refine .inl ?_); apply k0; clear k0; simp only [zP, E])
  (refine aa rfl fun _ k0 => ?_; simp only [zO, zT, acs, reduceCtorEq, M, E, O, Z, Y, V, Mdl.av, Mdl.cs]; (repeat refine an ?_); (try refine .inl ?_); apply k0; clear k0; simp only [zP, E])
  refine ae ?_
  refine ⟨by simp only [zP, M, E]; exact rfl, rfl, ?_, rfl⟩; (repeat refine au rfl ?_); exact aH (by exact rfl) hq76
 case b76 => exact aU
 simp only [aA, aw]
 (refine aa rfl fun _ k0 => ?_; simp only [zO, zT, acs, reduceCtorEq, M, E, O, Z, Y, V, Mdl.av, Mdl.cs]; (repeat refine an ?_); (try refine .inl ?_); apply k0; clear k0; simp only [zP, E])
 refine' ar (want := true) 3 rfl (m := 145) (by simp only [zP, M, E]; exact rfl) (by kernel_rfl) rfl rfl rfl rfl rfl (fun hg77 => ?a77) ?b77 ?c77
 case a77 =>
  have hq77 := hg77; (try simp only [zB, reduceCtorEq] at hg77); simp only [zE]
  iterate 3 (refine aJ rfl fun _ k0 => ?_; simp only [zO, zT, acs, reduceCtorEq, M, E, O, Z, Y, V, Mdl.av, Mdl.cs]; (repeat refine an ?_); (try refine .inl ?_); apply k0; clear k0; simp only [zP, E])
  (refine aa rfl fun _ k0 => ?_; simp only [zO, zT, acs, reduceCtorEq, M, E, O, Z, Y, V, Mdl.av, Mdl.cs]; (repeat refine an ?_); (try refine .inl ?_); apply k0; clear k0; simp only [zP, E])
  refine ae ?_
  refine ⟨by simp only [zP, M, E]; exact rfl, rfl, ?_, rfl⟩; (repeat refine au rfl ?_); exact aH (by exact rfl) hq77
 case b77 => exact aU
 simp only [aA, aw]
 (refine aa rfl fun _ k0 => ?_; simp only [zO, zT, acs, reduceCtorEq, M, E, O, Z, Y, V, Mdl.av, Mdl.cs]; (repeat refine an ?_); (try refine .inl ?_); apply k0; clear k0; simp only [zP, E])
 refine' ar (want := true) 3 rfl (m := 150) (by simp only [zP, M, E]; exact rfl) (by kernel_rfl) rfl rfl rfl rfl rfl (fun hg78 => ?a78) ?b78 ?c78
 case a78 =>
  have hq78 := hg78; (try simp only [zB, reduceCtorEq] at hg78); simp only [zE]
  iterate 3 (refine aJ rfl fun _ k0 => ?_; simp only [zO, zT, acs, reduceCtorEq, M, E, O, Z, Y, V, Mdl.av, Mdl.cs]; (repeat refine an ?_); (try refine .inl ?_); apply k0; clear k0; simp only [zP, E])
  (refine aa rfl fun _ k0 => ?_; simp only [zO, zT, acs, reduceCtorEq, M, E, O, Z, Y, V, Mdl.av, Mdl.cs]; (repeat refine an ?_); (try refine .inl ?_); apply k0; clear k0; simp only [zP, E])
  refine ae ?_
  refine ⟨by simp only [zP, M, E]; exact rfl, rfl, ?_, rfl⟩; (repeat refine au rfl ?_); exact aH (by exact rfl) hq78
 case b78 => exact aU
 simp only [aA, aw]
 (refine aa rfl fun _ k0 => ?_; simp only [zO, zT, acs, reduceCtorEq, M, E, O, Z, Y, V, Mdl.av, Mdl.cs]; (repeat refine an ?_); (try refine .inl ?_); apply k0; clear k0; simp only [zP, E])
 refine' ar (want := true) 3 rfl (m := 155) (by simp only [zP, M, E]; exact rfl) (by kernel_rfl) rfl rfl rfl rfl rfl (fun hg79 => ?a79) ?b79 ?c79
 case a79 =>
  have hq79 := hg79; (try simp only [zB, reduceCtorEq] at hg79); simp only [zE]
  iterate 3 (refine aJ rfl fun _ k0 => ?_; simp only [zO, zT, acs, reduceCtorEq, M, E, O, Z, Y, V, Mdl.av, Mdl.cs]; (repeat refine an ?_); (try refine .inl ?_); apply k0; clear k0; simp only [zP, E])
  (refine aa rfl fun _ k0 => ?_; simp only [zO, zT, acs, reduceCtorEq, M, E, O, Z, Y, V, Mdl.av, Mdl.cs]; (repeat refine an ?_); (try refine .inl ?_); apply k0; clear k0; simp only [zP, E])
  refine ae ?_
  refine ⟨by simp only [zP, M, E]; exact rfl, rfl, ?_, rfl⟩; (repeat refine au rfl ?_); exact aH (by exact rfl) hq79
 case b79 => exact aU
 simp only [aA, aw]
 (refine aa rfl fun _ k0 => ?_; simp only [zO, zT, acs, reduceCtorEq, M, E, O, Z, Y, V, Mdl.av, Mdl.cs]; (repeat refine an ?_); (try refine .inl ?_); apply k0; clear k0; simp only [zP, E])
 refine' ar (want := true) 1 rfl (m := 160) (by simp only [zP, M, E]; exact rfl) (by kernel_rfl) rfl rfl rfl rfl rfl (fun hg80 => ?a80) ?b80 ?c80
 case a80 =>
  have hq80 := hg80; (try simp only [zB, reduceCtorEq] at hg80); simp only [zE]
  refine aJ rfl fun _ k0 => ?_
  refine ax (h := aj dJ) rfl rfl (by first | exact rfl | (simp only [ev, zP, M, E]; exact rfl)) (by simp only [zV, acs, reduceCtorEq, M, E, O, Z, Y, V, Mdl.av, Mdl.cs]) ?_
  apply k0; clear k0; simp only [zP, E]
  (refine aa rfl fun _ k0 => ?_; simp only [zO, zT, acs, reduceCtorEq, M, E, O, Z, Y, V, Mdl.av, Mdl.cs]; (repeat refine an ?_); (try refine .inl ?_); apply k0; clear k0; simp only [zP, E])
  refine ae ?_
  refine ⟨by simp only [zP, M, E]; exact rfl, rfl, ?_, rfl⟩; (repeat refine au rfl ?_); exact aH (by exact rfl) hq80
 case b80 => exact aU
 simp only [aA, aw]
 (refine aa rfl fun _ k0 => ?_; simp only [zO, zT, acs, reduceCtorEq, M, E, O, Z, Y, V, Mdl.av, Mdl.cs]; (repeat refine an ?_); (try refine .inl ?_); apply k0; clear k0; simp only [zP, E])
 refine ae ?_
 apply k74; clear k74; refine kp [0, 1, 6, 8, 9, 10, 11, 12, 13, 14, 15, 16, 17, 18, 19, 20, 21, 66, 97, 129] ?_
 refine ay ?_
 refine ⟨nr, _, rfl, ?_⟩; simp only [zF, zP, M, E, Mdl.av, Mdl.cs]
 refine VLE.of_eq ?_
 first
 | rfl
 | (rw [hp1, hp2, js hsh]; simp [bJ]; done)
 | (rw [hp1, hp2, j9 (by omega)]; simp [bJ]; done)
end Go.Proofs.YtmfkpljjhiglpaaDoor
