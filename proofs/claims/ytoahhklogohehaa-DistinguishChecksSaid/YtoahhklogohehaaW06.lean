/- Contracts of functions of this seat, each out of a walk through its code, and plain facts on what they compute. Conditions: those that each theorem names. -/
import Derived.Test.YtoahhklogohehaaW05
set_option linter.unusedSimpArgs false
set_option linter.unusedVariables false
set_option maxRecDepth 100000
namespace Go.Proofs.Ytoahhklogohehaa
open Go Go.AV
open Nat renaming reduceEqDiff → aa, reduceAdd → V, reduceLeDiff → ad, reduceLT → ag, reduceMul → af, reduceSub → ae
open List renaming set_cons_zero → cG, set_cons_succ → cm, getD_cons_zero → au, length_append → aq, map_cons → aI, cons_append → aP, map_nil → bl, length_cons → aw, nil_append → bc, take_succ_cons → dA, length_nil → aH, length_map → aF, length_replicate → aD, take_length → aJ, mem_cons_self → aS, mem_cons_of_mem → aL
open Int renaming toNat_natCast → ah
set_option maxHeartbeats 4000000 in
theorem xU (f : Nat) (m : Mly) (hm : MOK m) (T : List aX) (hT : T.length ≤ 4096) (IH : ∀ (p : Nat) (ini cur : List Int), T.length + 1 ≤ f + p → p ≤ T.length → cJ m cur → ini.length = cur.length → 0 < cur.length → cur.length ≤ 1000 → bG Try.prog 38 [m.av, .agg [.list ndT T], .one (.int .i64 (p : Int)), .one (.list (.int .i64) ini), .one (.list (.int .i64) cur)] (.one (.int .i64 (rtI (rtF m T f p ini cur))))) (p : Nat) (ini cur : List Int) (hf : T.length + 1 ≤ (f + 1) + p) (hp : p ≤ T.length) (hs : cJ m cur) (hil : ini.length = cur.length) (h0 : 0 < cur.length) (hl : cur.length ≤ 1000) : bG Try.prog 38 [m.av, .agg [.list ndT T], .one (.int .i64 (p : Int)), .one (.list (.int .i64) ini), .one (.list (.int .i64) cur)] (.one (.int .i64 (rtI (rtF m T (f + 1) p ini cur)))) := by
 refine aR Try.func38 rfl (by kernel_rfl) (Nat.le_of_ble_eq_true rfl) rfl fun C hP hN hB => ?_
 replace hN : C.N = 146 := hN
 simp only [bf, V]
 refine ai fun _ k1 => ?_
 refine ak hP hN rfl ?_
 iterate 3 (refine aj rfl fun _ k0 => ?_; simp only [zO, zT, acs, reduceCtorEq, aa, V, ad, ag, af, ae, Mly.av, ah, ar, aA, az]; (repeat refine an ?_); (try refine .inl ?_); apply k0; clear k0; simp only [zP, V])
 refine am ?_
 apply k1; clear k1; refine kp [0, 1, 2, 3, 4, 5, 6, 10] ?_
 refine ai fun _ k2 => ?_
 refine ai fun _ k3 => ?_
 refine ak hP hN rfl ?_
 iterate 6 (refine aj rfl fun _ k0 => ?_; simp only [zO, zT, acs, reduceCtorEq, aa, V, ad, ag, af, ae, Mly.av, ah, ar, aA, az]; (repeat refine an ?_); (try refine .inl ?_); apply k0; clear k0; simp only [zP, V])
 refine' aN (want := false) 9 rfl (m := 23) (by simp only [zP, aa, V]; exact rfl) (by kernel_rfl) rfl rfl rfl rfl rfl (fun hg4 => ?a4) ?b4 ?c4
 case a4 =>
  have hq4 := hg4; (try simp only [zB, reduceCtorEq] at hg4); simp only [zE]
  iterate 7 (refine aY rfl fun _ k0 => ?_; simp only [zO, zT, acs, reduceCtorEq, aa, V, ad, ag, af, ae, Mly.av, ah, ar, aA, az]; (repeat refine an ?_); (try refine .inl ?_); apply k0; clear k0; simp only [zP, V])
  refine aY rfl fun _ k0 => ?_
  refine aK (h := aC (wR (T.getD p nd0).1 ini)) rfl rfl (by first | exact rfl | (simp only [ev, zP, aa, V]; exact rfl)) (by simp only [zV, acs, reduceCtorEq, aa, V, ad, ag, af, ae, Mly.av, ah, ar, aA, az]) ?_
  apply k0; clear k0; simp only [zP, V]
  (refine aY rfl fun _ k0 => ?_; simp only [zO, zT, acs, reduceCtorEq, aa, V, ad, ag, af, ae, Mly.av, ah, ar, aA, az]; (repeat refine an ?_); (try refine .inl ?_); apply k0; clear k0; simp only [zP, V])
  (refine aj rfl fun _ k0 => ?_; simp only [zO, zT, acs, reduceCtorEq, aa, V, ad, ag, af, ae, Mly.av, ah, ar, aA, az]; (repeat refine an ?_); (try refine .inl ?_); apply k0; clear k0; simp only [zP, V])
  refine am ?_
  refine ⟨by simp only [zP, aa, V]; exact rfl, rfl, ?_, rfl⟩; (repeat refine aM rfl ?_); exact bm (by exact rfl) hq4
 case b4 => exact bZ
 simp only [b7, aU]
 refine am ?_
 apply k3; clear k3; refine kp [0, 1, 2, 3, 4, 5, 6, 10, 33] ?_
 refine cd (fun hc5 => ?_) (fun hc5 => ?_)
 ·(try simp only [zB, reduceCtorEq] at hc5)
  have hNN : rtF m T (f + 1) p ini cur = none := kt (m := m) (f := f) (fun h => Or.elim hc5 (fun h9 => by omega) (fun h9 => h9 h.2.1))
  refine ai fun _ k6 => ?_
  refine ak hP hN rfl ?_
  (refine aj rfl fun _ k0 => ?_; simp only [zO, zT, acs, reduceCtorEq, aa, V, ad, ag, af, ae, Mly.av, ah, ar, aA, az]; (repeat refine an ?_); (try refine .inl ?_); apply k0; clear k0; simp only [zP, V])
  refine am ?_
  apply k6; clear k6; refine kp [0, 1, 2, 3, 4, 5, 6, 10, 33] ?_
  refine aG ?_
  refine ⟨nr, _, rfl, ?_⟩; simp only [zF, zP, aa, V, Mly.av, ah, ar, aA, az]
  refine VLE.of_eq ?_
  refine congrArg (fun n => AV.one (AC.int IntKind.i64 n)) ?_
  first
  | (rw [hNN]; done)
  | (rw [hNN]; rfl)
  | (rw [hSS]; done)
  | (rw [hSS]; rfl)
 (try simp only [zB, reduceCtorEq] at hc5)
 have hy1 : p < T.length ∧ (T.getD p nd0).1 = ini := ⟨by omega, hc5.2⟩
 refine ay ?_
 apply k2; clear k2; refine kp [0, 1, 2, 3, 4, 5, 6, 10, 33] ?_
 refine ai fun _ k7 => ?_
 refine ai fun _ k8 => ?_
 refine ak hP hN rfl ?_
 (refine aj rfl fun _ k0 => ?_; simp only [zO, zT, acs, reduceCtorEq, aa, V, ad, ag, af, ae, Mly.av, ah, ar, aA, az]; (repeat refine an ?_); (try refine .inl ?_); apply k0; clear k0; simp only [zP, V])
 refine am ?_
 apply k8; clear k8; refine kp [0, 1, 2, 3, 4, 5, 6, 10, 11, 33] ?_
 refine aB ?_
 refine aZ (fun n9 s9 => ∃ (k : Nat), (k ≤ cur.length) ∧ (∀ k2 j2, k2 < k → j2 < k2 → cur.getD k2 0 ≠ cur.getD j2 0) ∧ n9 = cur.length - k ∧ s9 = { env := [(2, .one (.int .i64 (p : Int))), (3, .one (.list (.int .i64) ini)), (4, .one (.list (.int .i64) cur)), (5, .one (.ptr 0 0 0 0)), (6, .one (.ptr 1 0 0 0)), (10, .one (.int .i64 0)), (11, .one (.int .i64 (k : Int)))], L := [.vars 24 [.int .i64 m.inp, .int .i64 m.st, .list (.list (.int .i64)) m.nx, .list (.list (.int .i64)) m.ot], .vars 29 [.list ndT T]] }) ?_ ?_
 ·exact ⟨_, _, ax [2, 3, 4, 5, 6, 10, 11], 0, Nat.zero_le _, fun k2 j2 h1 h2 => by omega, rfl, rfl⟩
 rintro n9 s9 ⟨k, hk, hu, rfl, rfl⟩
 refine ai fun _ k10 => ?_
 refine ai fun _ k11 => ?_
 refine ak hP hN rfl ?_
 iterate 4 (refine aj rfl fun _ k0 => ?_; simp only [zO, zT, acs, reduceCtorEq, aa, V, ad, ag, af, ae, Mly.av, ah, ar, aA, az]; (repeat refine an ?_); (try refine .inl ?_); apply k0; clear k0; simp only [zP, V])
 refine am ?_
 apply k11; clear k11; refine kp [2, 3, 4, 5, 6, 10, 11, 37] ?_
 refine cd (fun hc12 => ?_) (fun hc12 => ?_)
 ·(try simp only [zB, reduceCtorEq] at hc12)
  refine ay ?_
  apply k10; clear k10; refine kp [2, 3, 4, 5, 6, 10, 11, 37] ?_
  refine ai fun _ k13 => ?_
  refine aB ?_
  refine ai fun _ k14 => ?_
  refine ak hP hN rfl ?_
  (refine aj rfl fun _ k0 => ?_; simp only [zO, zT, acs, reduceCtorEq, aa, V, ad, ag, af, ae, Mly.av, ah, ar, aA, az]; (repeat refine an ?_); (try refine .inl ?_); apply k0; clear k0; simp only [zP, V])
  refine am ?_
  apply k14; clear k14; refine kp [2, 3, 4, 5, 6, 10, 11, 12, 37] ?_
  refine aB ?_
  refine aZ (fun n15 s15 => ∃ (j : Nat), (j ≤ k) ∧ (∀ j2, j2 < j → cur.getD k 0 ≠ cur.getD j2 0) ∧ n15 = k - j ∧ s15 = { env := [(2, .one (.int .i64 (p : Int))), (3, .one (.list (.int .i64) ini)), (4, .one (.list (.int .i64) cur)), (5, .one (.ptr 0 0 0 0)), (6, .one (.ptr 1 0 0 0)), (10, .one (.int .i64 0)), (11, .one (.int .i64 (k : Int))), (12, .one (.int .i64 (j : Int))), (37, .one (.bool true))], L := [.vars 24 [.int .i64 m.inp, .int .i64 m.st, .list (.list (.int .i64)) m.nx, .list (.list (.int .i64)) m.ot], .vars 29 [.list ndT T]] }) ?_ ?_
  ·refine ⟨_, _, ax [2, 3, 4, 5, 6, 10, 11, 12, 37], 0, Nat.zero_le _, fun j2 h => by omega, rfl, ?_⟩
   rw [decide_eq_true (by omega)]; rfl
  rintro n15 s15 ⟨j, hj, hq, rfl, rfl⟩
  refine ai fun _ k16 => ?_
  refine ai fun _ k17 => ?_
  refine ak hP hN rfl ?_
  iterate 3 (refine aj rfl fun _ k0 => ?_; simp only [zO, zT, acs, reduceCtorEq, aa, V, ad, ag, af, ae, Mly.av, ah, ar, aA, az]; (repeat refine an ?_); (try refine .inl ?_); apply k0; clear k0; simp only [zP, V])
  refine am ?_
  apply k17; clear k17; refine kp [2, 3, 4, 5, 6, 10, 11, 12, 37, 42] ?_
  refine cd (fun hc18 => ?_) (fun hc18 => ?_)
  ·(try simp only [zB, reduceCtorEq] at hc18)
   refine ay ?_
   apply k16; clear k16; refine kp [2, 3, 4, 5, 6, 10, 11, 12, 37, 42] ?_
   refine ai fun _ k19 => ?_
   refine aB ?_
   refine ai fun _ k20 => ?_
   refine bj hP hN Try.mixed rfl ?_
   iterate 9 (refine aj rfl fun _ k0 => ?_; simp only [zO, zT, acs, reduceCtorEq, aa, V, ad, ag, af, ae, Mly.av, ah, ar, aA, az]; (repeat refine an ?_); (try refine .inl ?_); apply k0; clear k0; simp only [zP, V])
   refine am ?_
   refine ⟨by kernel_rfl, ?_⟩
   apply k20; clear k20; refine kp [2, 3, 4, 5, 6, 10, 11, 12, 37, 42, 53] ?_
   refine cd (fun hc21 => ?_) (fun hc21 => ?_)
   ·(try simp only [zB, reduceCtorEq] at hc21)
    have hq9 : cur.getD k 0 = cur.getD j 0 := hc21
    have hNN : rtF m T (f + 1) p ini cur = none := kt (m := m) (f := f) (fun h => lD.1 h.2.2 k j (by omega) (by omega) hq9)
    refine ai fun _ k22 => ?_
    refine ak hP hN rfl ?_
    (refine aj rfl fun _ k0 => ?_; simp only [zO, zT, acs, reduceCtorEq, aa, V, ad, ag, af, ae, Mly.av, ah, ar, aA, az]; (repeat refine an ?_); (try refine .inl ?_); apply k0; clear k0; simp only [zP, V])
    refine am ?_
    apply k22; clear k22; refine kp [2, 3, 4, 5, 6, 10, 11, 12, 37, 42, 53] ?_
    refine aG ?_
    refine ⟨nr, _, rfl, ?_⟩; simp only [zF, zP, aa, V, Mly.av, ah, ar, aA, az]
    refine VLE.of_eq ?_
    refine congrArg (fun n => AV.one (AC.int IntKind.i64 n)) ?_
    first
    | (rw [hNN]; done)
    | (rw [hNN]; rfl)
    | (rw [hSS]; done)
    | (rw [hSS]; rfl)
   (try simp only [zB, reduceCtorEq] at hc21)
   have hq9 : ¬ cur.getD k 0 = cur.getD j 0 := hc21
   refine ay ?_
   apply k19; clear k19; refine kp [2, 3, 4, 5, 6, 10, 11, 12, 37, 42, 53] ?_
   refine ak hP hN rfl ?_
   iterate 3 (refine aj rfl fun _ k0 => ?_; simp only [zO, zT, acs, reduceCtorEq, aa, V, ad, ag, af, ae, Mly.av, ah, ar, aA, az]; (repeat refine an ?_); (try refine .inl ?_); apply k0; clear k0; simp only [zP, V])
   refine am ?_
   refine ⟨_, _, ?_, ax [2, 3, 4, 5, 6, 10, 11, 12, 37], j + 1, by omega, fun j2 h2 => ?_, rfl, rfl⟩
   · omega
   · by_cases e : j2 = j
     · rw [e]; exact hq9
     · exact hq j2 (by omega)
  (try simp only [zB, reduceCtorEq] at hc18)
  refine aV ?_
  apply k13; clear k13; refine kp [2, 3, 4, 5, 6, 10, 11, 12, 37, 42] ?_
  refine ak hP hN rfl ?_
  iterate 3 (refine aj rfl fun _ k0 => ?_; simp only [zO, zT, acs, reduceCtorEq, aa, V, ad, ag, af, ae, Mly.av, ah, ar, aA, az]; (repeat refine an ?_); (try refine .inl ?_); apply k0; clear k0; simp only [zP, V])
  refine am ?_
  refine ⟨_, _, ?_, ax [2, 3, 4, 5, 6, 10, 11], k + 1, by omega, fun k2 j2 h1 h2 => ?_, rfl, rfl⟩
  · omega
  · by_cases e : k2 = k
    · rw [e]; exact hq j2 (by omega)
    · exact hu k2 j2 (by omega) h2
 (try simp only [zB, reduceCtorEq] at hc12)
 have hnd : cur.Nodup := lD.2 fun k2 j2 h1 h2 => hu k2 j2 (by omega) h2
 have hyes : p < T.length ∧ (T.getD p nd0).1 = ini ∧ cur.Nodup := ⟨hy1.1, hy1.2, hnd⟩
 refine aV ?_
 apply k7; clear k7; refine kp [2, 3, 4, 5, 6, 10, 11, 37] ?_
 refine ai fun _ k23 => ?_
 refine ak hP hN rfl ?_
 iterate 7 (refine aj rfl fun _ k0 => ?_; simp only [zO, zT, acs, reduceCtorEq, aa, V, ad, ag, af, ae, Mly.av, ah, ar, aA, az]; (repeat refine an ?_); (try refine .inl ?_); apply k0; clear k0; simp only [zP, V])
 refine am ?_
 apply k23; clear k23; refine kp [2, 3, 4, 5, 6, 10, 11, 13, 37] ?_
 refine ai fun _ k24 => ?_
 refine ai fun _ k25 => ?_
 refine ak hP hN rfl ?_
 iterate 4 (refine aj rfl fun _ k0 => ?_; simp only [zO, zT, acs, reduceCtorEq, aa, V, ad, ag, af, ae, Mly.av, ah, ar, aA, az]; (repeat refine an ?_); (try refine .inl ?_); apply k0; clear k0; simp only [zP, V])
 refine' aN (want := true) 4 rfl (m := 62) (by simp only [zP, aa, V]; exact rfl) (by kernel_rfl) rfl rfl rfl rfl rfl (fun hg26 => ?a26) ?b26 ?c26
 case a26 =>
  have hq26 := hg26; (try simp only [zB, reduceCtorEq] at hg26); simp only [zE]
  iterate 4 (refine aY rfl fun _ k0 => ?_; simp only [zO, zT, acs, reduceCtorEq, aa, V, ad, ag, af, ae, Mly.av, ah, ar, aA, az]; (repeat refine an ?_); (try refine .inl ?_); apply k0; clear k0; simp only [zP, V])
  (refine aj rfl fun _ k0 => ?_; simp only [zO, zT, acs, reduceCtorEq, aa, V, ad, ag, af, ae, Mly.av, ah, ar, aA, az]; (repeat refine an ?_); (try refine .inl ?_); apply k0; clear k0; simp only [zP, V])
  refine am ?_
  refine ⟨by simp only [zP, aa, V]; exact rfl, rfl, ?_, rfl⟩; (repeat refine aM rfl ?_); exact bm (by exact rfl) hq26
 case b26 => exact bZ
 simp only [b7, aU]
 refine am ?_
 apply k25; clear k25; refine kp [2, 3, 4, 5, 6, 10, 11, 13, 37, 67] ?_
 refine cd (fun hc27 => ?_) (fun hc27 => ?_)
 ·(try simp only [zB, reduceCtorEq] at hc27)
  have h8 : (T.getD p nd0).2.1 = -1 ∧ ((T.getD p nd0).2.2.1.length : Int) = 0 := hc27
  have hSS := (d7 (m := m) (f := f) hyes h8.1).trans (if_pos (by omega))
  refine ai fun _ k28 => ?_
  refine ak hP hN rfl ?_
  iterate 3 (refine aj rfl fun _ k0 => ?_; simp only [zO, zT, acs, reduceCtorEq, aa, V, ad, ag, af, ae, Mly.av, ah, ar, aA, az]; (repeat refine an ?_); (try refine .inl ?_); apply k0; clear k0; simp only [zP, V])
  refine am ?_
  apply k28; clear k28; refine kp [2, 3, 4, 5, 6, 10, 11, 13, 37, 67] ?_
  refine aG ?_
  refine ⟨nr, _, rfl, ?_⟩; simp only [zF, zP, aa, V, Mly.av, ah, ar, aA, az]
  refine VLE.of_eq ?_
  refine congrArg (fun n => AV.one (AC.int IntKind.i64 n)) ?_
  first
  | (rw [hNN]; done)
  | (rw [hNN]; rfl)
  | (rw [hSS]; done)
  | (rw [hSS]; rfl)
 (try simp only [zB, reduceCtorEq] at hc27)
 have h8 : ¬ (T.getD p nd0).2.1 = -1 ∨ ¬ ((T.getD p nd0).2.2.1.length : Int) = 0 := hc27
 refine ay ?_
 apply k24; clear k24; refine kp [2, 3, 4, 5, 6, 10, 11, 13, 37, 67] ?_
 refine ai fun _ k29 => ?_
 refine ai fun _ k30 => ?_
 refine ak hP hN rfl ?_
 iterate 4 (refine aj rfl fun _ k0 => ?_; simp only [zO, zT, acs, reduceCtorEq, aa, V, ad, ag, af, ae, Mly.av, ah, ar, aA, az]; (repeat refine an ?_); (try refine .inl ?_); apply k0; clear k0; simp only [zP, V])
 refine' aN (want := false) 5 rfl (m := 73) (by simp only [zP, aa, V]; exact rfl) (by kernel_rfl) rfl rfl rfl rfl rfl (fun hg31 => ?a31) ?b31 ?c31
 case a31 =>
  have hq31 := hg31; (try simp only [zB, reduceCtorEq] at hg31); simp only [zE]
  iterate 5 (refine aY rfl fun _ k0 => ?_; simp only [zO, zT, acs, reduceCtorEq, aa, V, ad, ag, af, ae, Mly.av, ah, ar, aA, az]; (repeat refine an ?_); (try refine .inl ?_); apply k0; clear k0; simp only [zP, V])
  (refine aj rfl fun _ k0 => ?_; simp only [zO, zT, acs, reduceCtorEq, aa, V, ad, ag, af, ae, Mly.av, ah, ar, aA, az]; (repeat refine an ?_); (try refine .inl ?_); apply k0; clear k0; simp only [zP, V])
  refine am ?_
  refine ⟨by simp only [zP, aa, V]; exact rfl, rfl, ?_, rfl⟩; (repeat refine aM rfl ?_); exact bm (by exact rfl) hq31
 case b31 => exact bZ
 simp only [b7, aU]
 refine am ?_
 apply k30; clear k30; refine kp [2, 3, 4, 5, 6, 10, 11, 13, 37, 67, 79] ?_
 refine cd (fun hc32 => ?_) (fun hc32 => ?_)
 ·(try simp only [zB, reduceCtorEq] at hc32)
  have h7 : (T.getD p nd0).2.1 < 0 ∨ m.inp ≤ (T.getD p nd0).2.1 := hc32
  have hNN : rtF m T (f + 1) p ini cur = none := by
    by_cases e1 : (T.getD p nd0).2.1 = -1
    · exact (d7 (m := m) (f := f) hyes e1).trans (if_neg (by rcases h8 with h9 | h9 <;> omega))
    · exact jP e1 (by omega)
  refine ai fun _ k33 => ?_
  refine ak hP hN rfl ?_
  (refine aj rfl fun _ k0 => ?_; simp only [zO, zT, acs, reduceCtorEq, aa, V, ad, ag, af, ae, Mly.av, ah, ar, aA, az]; (repeat refine an ?_); (try refine .inl ?_); apply k0; clear k0; simp only [zP, V])
  refine am ?_
  apply k33; clear k33; refine kp [2, 3, 4, 5, 6, 10, 11, 13, 37, 67, 79] ?_
  refine aG ?_
  refine ⟨nr, _, rfl, ?_⟩; simp only [zF, zP, aa, V, Mly.av, ah, ar, aA, az]
  refine VLE.of_eq ?_
  refine congrArg (fun n => AV.one (AC.int IntKind.i64 n)) ?_
  first
  | (rw [hNN]; done)
  | (rw [hNN]; rfl)
  | (rw [hSS]; done)
  | (rw [hSS]; rfl)
 (try simp only [zB, reduceCtorEq] at hc32)
 have hxa : 0 ≤ (T.getD p nd0).2.1 ∧ (T.getD p nd0).2.1 < m.inp := hc32
 have hx1 : ¬ (T.getD p nd0).2.1 = -1 := by omega
 have hkl := fO (ouL m cur (T.getD p nd0).2.1)
 have hol : (ouL m cur (T.getD p nd0).2.1).length = cur.length := aF ..
 refine ay ?_
 apply k29; clear k29; refine kp [2, 3, 4, 5, 6, 10, 11, 13, 37, 67, 79] ?_
 refine ai fun _ k34 => ?_
 refine ak hP hN rfl ?_
 iterate 4 (refine aj rfl fun _ k0 => ?_; simp only [zO, zT, acs, reduceCtorEq, aa, V, ad, ag, af, ae, Mly.av, ah, ar, aA, az]; (repeat refine an ?_); (try refine .inl ?_); apply k0; clear k0; simp only [zP, V])
 refine aj rfl fun _ k0 => ?_
 refine aK (h := aC (vS m cur (T.getD p nd0).2.1 hm hs hxa hl)) rfl rfl (by first | exact rfl | (simp only [ev, zP, aa, V]; exact rfl)) (by simp only [zV, acs, reduceCtorEq, aa, V, ad, ag, af, ae, Mly.av, ah, ar, aA, az]) ?_
 apply k0; clear k0; simp only [zP, V]
 (refine aj rfl fun _ k0 => ?_; simp only [zO, zT, acs, reduceCtorEq, aa, V, ad, ag, af, ae, Mly.av, ah, ar, aA, az]; (repeat refine an ?_); (try refine .inl ?_); apply k0; clear k0; simp only [zP, V])
 refine am ?_
 apply k34; clear k34; refine kp [2, 3, 4, 5, 6, 10, 11, 13, 14, 37, 67, 79] ?_
 refine ai fun _ k35 => ?_
 refine ai fun _ k36 => ?_
 refine ak hP hN rfl ?_
 iterate 6 (refine aj rfl fun _ k0 => ?_; simp only [zO, zT, acs, reduceCtorEq, aa, V, ad, ag, af, ae, Mly.av, ah, ar, aA, az]; (repeat refine an ?_); (try refine .inl ?_); apply k0; clear k0; simp only [zP, V])
 refine am ?_
 apply k36; clear k36; refine kp [2, 3, 4, 5, 6, 10, 11, 13, 14, 37, 67, 79, 90] ?_
 refine cd (fun hc37 => ?_) (fun hc37 => ?_)
 ·(try simp only [zB, reduceCtorEq] at hc37)
  have h8 : ¬ (((aE (ouL m cur (T.getD p nd0).2.1)).length : Int) = ((T.getD p nd0).2.2.1.length : Int)) := hc37
  have hNN : rtF m T (f + 1) p ini cur = none := jP hx1 (by omega)
  refine ai fun _ k38 => ?_
  refine ak hP hN rfl ?_
  (refine aj rfl fun _ k0 => ?_; simp only [zO, zT, acs, reduceCtorEq, aa, V, ad, ag, af, ae, Mly.av, ah, ar, aA, az]; (repeat refine an ?_); (try refine .inl ?_); apply k0; clear k0; simp only [zP, V])
  refine am ?_
  apply k38; clear k38; refine kp [2, 3, 4, 5, 6, 10, 11, 13, 14, 37, 67, 79, 90] ?_
  refine aG ?_
  refine ⟨nr, _, rfl, ?_⟩; simp only [zF, zP, aa, V, Mly.av, ah, ar, aA, az]
  refine VLE.of_eq ?_
  refine congrArg (fun n => AV.one (AC.int IntKind.i64 n)) ?_
  first
  | (rw [hNN]; done)
  | (rw [hNN]; rfl)
  | (rw [hSS]; done)
  | (rw [hSS]; rfl)
 (try simp only [zB, reduceCtorEq] at hc37)
 have hxl : (aE (ouL m cur (T.getD p nd0).2.1)).length = (T.getD p nd0).2.2.1.length := by
   have h8 : ((aE (ouL m cur (T.getD p nd0).2.1)).length : Int) = ((T.getD p nd0).2.2.1.length : Int) := hc37
   omega
 have hrf := kf (f := f) hyes hx1 ⟨hxa.1, hxa.2, hxl⟩
 refine ay ?_
 apply k35; clear k35; refine kp [2, 3, 4, 5, 6, 10, 11, 13, 14, 37, 67, 79, 90] ?_
 refine ai fun _ k39 => ?_
 refine ak hP hN rfl ?_
 iterate 3 (refine aj rfl fun _ k0 => ?_; simp only [zO, zT, acs, reduceCtorEq, aa, V, ad, ag, af, ae, Mly.av, ah, ar, aA, az]; (repeat refine an ?_); (try refine .inl ?_); apply k0; clear k0; simp only [zP, V])
 refine am ?_
 apply k39; clear k39; refine kp [2, 3, 4, 5, 6, 10, 11, 13, 14, 15, 37, 67, 79, 90] ?_
 refine ai fun _ k40 => ?_
 refine ai fun _ k41 => ?_
 refine ak hP hN rfl ?_
 (refine aj rfl fun _ k0 => ?_; simp only [zO, zT, acs, reduceCtorEq, aa, V, ad, ag, af, ae, Mly.av, ah, ar, aA, az]; (repeat refine an ?_); (try refine .inl ?_); apply k0; clear k0; simp only [zP, V])
 refine am ?_
 apply k41; clear k41; refine kp [2, 3, 4, 5, 6, 10, 11, 13, 14, 15, 16, 37, 67, 79, 90] ?_
 refine aB ?_
 refine aZ (fun n42 s42 => ∃ (i e : Nat), (i ≤ (aE (ouL m cur (T.getD p nd0).2.1)).length) ∧ ((List.range i).foldl (ff m (rtF m T f) ini cur (T.getD p nd0)) (some (p + 1)) = some e) ∧ (p + 1 ≤ e ∧ e ≤ T.length) ∧ n42 = (aE (ouL m cur (T.getD p nd0).2.1)).length - i ∧ s42 = { env := [(3, .one (.list (.int .i64) ini)), (4, .one (.list (.int .i64) cur)), (5, .one (.ptr 0 0 0 0)), (6, .one (.ptr 1 0 0 0)), (10, .one (.int .i64 0)), (13, .one (.ptr 2 0 0 0)), (14, .one (.list (.int .i64) (aE (ouL m cur (T.getD p nd0).2.1)))), (15, .one (.int .i64 (e : Int))), (16, .one (.int .i64 (i : Int)))], L := [.vars 24 [.int .i64 m.inp, .int .i64 m.st, .list (.list (.int .i64)) m.nx, .list (.list (.int .i64)) m.ot], .vars 29 [.list ndT T], .vars 52 [.list (.int .i64) (T.getD p nd0).1, .int .i64 (T.getD p nd0).2.1, .list kdT (T.getD p nd0).2.2.1]] }) ?_ ?_
 ·exact ⟨_, _, ax [3, 4, 5, 6, 10, 13, 14, 15, 16], 0, p + 1, Nat.zero_le _, rfl, ⟨by omega, by omega⟩, rfl, rfl⟩
 rintro n42 s42 ⟨i, e, hi, hD, he, rfl, rfl⟩
 refine ai fun _ k43 => ?_
 refine ai fun _ k44 => ?_
 refine ak hP hN rfl ?_
 iterate 4 (refine aj rfl fun _ k0 => ?_; simp only [zO, zT, acs, reduceCtorEq, aa, V, ad, ag, af, ae, Mly.av, ah, ar, aA, az]; (repeat refine an ?_); (try refine .inl ?_); apply k0; clear k0; simp only [zP, V])
 refine am ?_
 apply k44; clear k44; refine kp [3, 4, 5, 6, 10, 13, 14, 15, 16, 96] ?_
 refine cd (fun hc45 => ?_) (fun hc45 => ?_)
 ·(try simp only [zB, reduceCtorEq] at hc45)
  refine ay ?_
  apply k43; clear k43; refine kp [3, 4, 5, 6, 10, 13, 14, 15, 16, 96] ?_
  refine ai fun _ k46 => ?_
  refine aB ?_
  refine ai fun _ k47 => ?_
  refine ai fun _ k48 => ?_
  have hil9 : (i : Int) < ((T.getD p nd0).2.2.1.length : Int) := by omega
  have hil8 : i < (T.getD p nd0).2.2.1.length := by omega
  refine bj hP hN Try.mixed rfl ?_
  iterate 12 (refine aj rfl fun _ k0 => ?_; simp only [zO, zT, acs, reduceCtorEq, aa, V, ad, ag, af, ae, Mly.av, ah, ar, aA, az]; (repeat refine an ?_); (try refine .inl ?_); apply k0; clear k0; simp only [zP, V])
  refine' aN (want := false) 8 rfl (m := 110) (by simp only [zP, aa, V]; exact rfl) (by kernel_rfl) rfl rfl rfl rfl rfl (fun hg49 => ?a49) ?b49 ?c49
  case a49 =>
   have hq49 := hg49; (try simp only [zB, reduceCtorEq] at hg49); simp only [zE]
   iterate 8 (refine aY rfl fun _ k0 => ?_; simp only [zO, zT, acs, reduceCtorEq, aa, V, ad, ag, af, ae, Mly.av, ah, ar, aA, az]; (repeat refine an ?_); (try refine .inl ?_); apply k0; clear k0; simp only [zP, V])
   (refine aj rfl fun _ k0 => ?_; simp only [zO, zT, acs, reduceCtorEq, aa, V, ad, ag, af, ae, Mly.av, ah, ar, aA, az]; (repeat refine an ?_); (try refine .inl ?_); apply k0; clear k0; simp only [zP, V])
   refine am ?_
   refine ⟨by simp only [zP, aa, V]; exact rfl, rfl, ?_, rfl⟩; (repeat refine aM rfl ?_); exact bm (by exact rfl) hq49
  case b49 => exact bZ
  simp only [b7, aU]
  refine am ?_
  refine ⟨by kernel_rfl, ?_⟩
  apply k48; clear k48; refine kp [3, 4, 5, 6, 10, 13, 14, 15, 16, 96, 119] ?_
  refine cd (fun hc50 => ?_) (fun hc50 => ?_)
  ·(try simp only [zB, reduceCtorEq] at hc50)
   have hNN : rtF m T (f + 1) p ini cur = none := hrf.trans (ku (by omega) hD (pr (fun h => Or.elim hc50 (fun h9 => h9 h.1) (fun h9 => h9 h.2))))
   refine ai fun _ k51 => ?_
   refine ak hP hN rfl ?_
   (refine aj rfl fun _ k0 => ?_; simp only [zO, zT, acs, reduceCtorEq, aa, V, ad, ag, af, ae, Mly.av, ah, ar, aA, az]; (repeat refine an ?_); (try refine .inl ?_); apply k0; clear k0; simp only [zP, V])
   refine am ?_
   apply k51; clear k51; refine kp [3, 4, 5, 6, 10, 13, 14, 15, 16, 96, 119] ?_
   refine aG ?_
   refine ⟨nr, _, rfl, ?_⟩; simp only [zF, zP, aa, V, Mly.av, ah, ar, aA, az]
   refine VLE.of_eq ?_
   refine congrArg (fun n => AV.one (AC.int IntKind.i64 n)) ?_
   first
   | (rw [hNN]; done)
   | (rw [hNN]; rfl)
   | (rw [hSS]; done)
   | (rw [hSS]; rfl)
  (try simp only [zB, reduceCtorEq] at hc50)
  have hkk := kE (m := m) (rec := rtF m T f) (ini := ini) (cur := cur) hc50
  refine ay ?_
  apply k47; clear k47; refine kp [3, 4, 5, 6, 10, 13, 14, 15, 16, 96, 119] ?_
  refine ai fun _ k52 => ?_
  have hin : ((aE (ouL m cur (T.getD p nd0).2.1)).getD i 0) ∈ (aE (ouL m cur (T.getD p nd0).2.1)) := bn (by omega)
  have hq1 := mA hm (o := ((aE (ouL m cur (T.getD p nd0).2.1)).getD i 0)) hxa hs
  have hq2 := gV m ini cur (T.getD p nd0).2.1 ((aE (ouL m cur (T.getD p nd0).2.1)).getD i 0) cur.length
  have hq3 := kC hin
  have hq4 : (bB m cur (T.getD p nd0).2.1 cur.length ((aE (ouL m cur (T.getD p nd0).2.1)).getD i 0)).length ≤ 1000 := Nat.le_trans lT hl
  have hptl := ml m cur (T.getD p nd0).2.1 ((aE (ouL m cur (T.getD p nd0).2.1)).getD i 0) cur.length
  refine bj hP hN Try.mixed rfl ?_
  iterate 8 (refine aj rfl fun _ k0 => ?_; simp only [zO, zT, acs, reduceCtorEq, aa, V, ad, ag, af, ae, Mly.av, ah, ar, aA, az]; (repeat refine an ?_); (try refine .inl ?_); apply k0; clear k0; simp only [zP, V])
  refine aj rfl fun _ k0 => ?_
  refine aK (h := aC (vQ m cur (T.getD p nd0).2.1 ((aE (ouL m cur (T.getD p nd0).2.1)).getD i 0) hm hs hxa hl)) rfl rfl (by first | exact rfl | (simp only [ev, zP, aa, V]; exact rfl)) (by simp only [zV, acs, reduceCtorEq, aa, V, ad, ag, af, ae, Mly.av, ah, ar, aA, az]) ?_
  apply k0; clear k0; simp only [zP, V]
  (refine aj rfl fun _ k0 => ?_; simp only [zO, zT, acs, reduceCtorEq, aa, V, ad, ag, af, ae, Mly.av, ah, ar, aA, az]; (repeat refine an ?_); (try refine .inl ?_); apply k0; clear k0; simp only [zP, V])
  refine am ?_
  refine ⟨by kernel_rfl, ?_⟩
  apply k52; clear k52; refine kp [3, 4, 5, 6, 10, 13, 14, 15, 16, 17, 96, 119] ?_
  refine ai fun _ k53 => ?_
  refine bj hP hN Try.mixed rfl ?_
  iterate 5 (refine aj rfl fun _ k0 => ?_; simp only [zO, zT, acs, reduceCtorEq, aa, V, ad, ag, af, ae, Mly.av, ah, ar, aA, az, iy, gK]; (repeat refine an ?_); (try refine .inl ?_); apply k0; clear k0; simp only [zP, V])
  refine aj rfl fun _ k0 => ?_
  refine aK (h := aC (pd ini (ptL m cur (T.getD p nd0).2.1 ((aE (ouL m cur (T.getD p nd0).2.1)).getD i 0) cur.length) (uA hil) (by omega))) rfl rfl (by first | exact rfl | (simp only [ev, zP, aa, V]; exact rfl)) (by simp only [zV, acs, reduceCtorEq, aa, V, ad, ag, af, ae, Mly.av, ah, ar, aA, az, iy, gK]) ?_
  apply k0; clear k0; simp only [zP, V]
  iterate 3 (refine aj rfl fun _ k0 => ?_; simp only [zO, zT, acs, reduceCtorEq, aa, V, ad, ag, af, ae, Mly.av, ah, ar, aA, az, iy, gK]; (repeat refine an ?_); (try refine .inl ?_); apply k0; clear k0; simp only [zP, V])
  refine aj rfl fun _ k0 => ?_
  refine aK (h := aC (pd cur (ptL m cur (T.getD p nd0).2.1 ((aE (ouL m cur (T.getD p nd0).2.1)).getD i 0) cur.length) (uA rfl) (by omega))) rfl rfl (by first | exact rfl | (simp only [ev, zP, aa, V]; exact rfl)) (by simp only [zV, acs, reduceCtorEq, aa, V, ad, ag, af, ae, Mly.av, ah, ar, aA, az, iy, gK]) ?_
  apply k0; clear k0; simp only [zP, V]
  iterate 2 (refine aj rfl fun _ k0 => ?_; simp only [zO, zT, acs, reduceCtorEq, aa, V, ad, ag, af, ae, Mly.av, ah, ar, aA, az, iy, gK]; (repeat refine an ?_); (try refine .inl ?_); apply k0; clear k0; simp only [zP, V])
  refine aj rfl fun _ k0 => ?_
  refine aK (h := aC (ve m (pkL cur (ptL m cur (T.getD p nd0).2.1 ((aE (ouL m cur (T.getD p nd0).2.1)).getD i 0) cur.length)) (T.getD p nd0).2.1 hm (A7 hs) hxa (by unfold pkL; rw [aF]; omega))) rfl rfl (by first | exact rfl | (simp only [ev, zP, aa, V]; exact rfl)) (by simp only [zV, acs, reduceCtorEq, aa, V, ad, ag, af, ae, Mly.av, ah, ar, aA, az, iy, gK]) ?_
  apply k0; clear k0; simp only [zP, V]
  refine aj rfl fun _ k0 => ?_
  refine aK (h := aC (IH e (bV m ini cur (T.getD p nd0).2.1 cur.length ((aE (ouL m cur (T.getD p nd0).2.1)).getD i 0)) (bB m cur (T.getD p nd0).2.1 cur.length ((aE (ouL m cur (T.getD p nd0).2.1)).getD i 0)) (by omega) (by omega) hq1 hq2 hq3 hq4)) rfl rfl (by first | exact rfl | (simp only [ev, zP, aa, V]; exact rfl)) (by simp only [zV, acs, reduceCtorEq, aa, V, ad, ag, af, ae, Mly.av, ah, ar, aA, az, iy, gK]) ?_
  apply k0; clear k0; simp only [zP, V]
  (refine aj rfl fun _ k0 => ?_; simp only [zO, zT, acs, reduceCtorEq, aa, V, ad, ag, af, ae, Mly.av, ah, ar, aA, az, iy, gK]; (repeat refine an ?_); (try refine .inl ?_); apply k0; clear k0; simp only [zP, V])
  refine am ?_
  refine ⟨by kernel_rfl, ?_⟩
  apply k53; clear k53; refine kp [3, 4, 5, 6, 10, 13, 14, 15, 16, 17, 96, 119] ?_
  refine ai fun _ k54 => ?_
  refine ak hP hN rfl ?_
  iterate 2 (refine aj rfl fun _ k0 => ?_; simp only [zO, zT, acs, reduceCtorEq, aa, V, ad, ag, af, ae, Mly.av, ah, ar, aA, az]; (repeat refine an ?_); (try refine .inl ?_); apply k0; clear k0; simp only [zP, V])
  refine am ?_
  apply k54; clear k54; refine kp [3, 4, 5, 6, 10, 13, 14, 15, 16, 17, 96, 119, 144] ?_
  refine cd (fun hc55 => ?_) (fun hc55 => ?_)
  ·(try simp only [zB, reduceCtorEq] at hc55)
   have hno9 : rtF m T f e (bV m ini cur (T.getD p nd0).2.1 cur.length ((aE (ouL m cur (T.getD p nd0).2.1)).getD i 0)) (bB m cur (T.getD p nd0).2.1 cur.length ((aE (ouL m cur (T.getD p nd0).2.1)).getD i 0)) = none := by
     cases hr : rtF m T f e (bV m ini cur (T.getD p nd0).2.1 cur.length ((aE (ouL m cur (T.getD p nd0).2.1)).getD i 0)) (bB m cur (T.getD p nd0).2.1 cur.length ((aE (ouL m cur (T.getD p nd0).2.1)).getD i 0)) with
     | none => rfl
     | some n =>
       rw [hr] at hc55
       have h9 : (n : Int) < 0 := hc55
       omega
   have hNN : rtF m T (f + 1) p ini cur = none := hrf.trans (ku (by omega) hD (hkk.trans hno9))
   refine ai fun _ k56 => ?_
   refine ak hP hN rfl ?_
   (refine aj rfl fun _ k0 => ?_; simp only [zO, zT, acs, reduceCtorEq, aa, V, ad, ag, af, ae, Mly.av, ah, ar, aA, az]; (repeat refine an ?_); (try refine .inl ?_); apply k0; clear k0; simp only [zP, V])
   refine am ?_
   apply k56; clear k56; refine kp [3, 4, 5, 6, 10, 13, 14, 15, 16, 17, 96, 119, 144] ?_
   refine aG ?_
   refine ⟨nr, _, rfl, ?_⟩; simp only [zF, zP, aa, V, Mly.av, ah, ar, aA, az]
   refine VLE.of_eq ?_
   refine congrArg (fun n => AV.one (AC.int IntKind.i64 n)) ?_
   first
   | (rw [hNN]; done)
   | (rw [hNN]; rfl)
   | (rw [hSS]; done)
   | (rw [hSS]; rfl)
  (try simp only [zB, reduceCtorEq] at hc55)
  obtain ⟨e2, he2⟩ : ∃ e2, rtF m T f e (bV m ini cur (T.getD p nd0).2.1 cur.length ((aE (ouL m cur (T.getD p nd0).2.1)).getD i 0)) (bB m cur (T.getD p nd0).2.1 cur.length ((aE (ouL m cur (T.getD p nd0).2.1)).getD i 0)) = some e2 := by
    cases hr : rtF m T f e (bV m ini cur (T.getD p nd0).2.1 cur.length ((aE (ouL m cur (T.getD p nd0).2.1)).getD i 0)) (bB m cur (T.getD p nd0).2.1 cur.length ((aE (ouL m cur (T.getD p nd0).2.1)).getD i 0)) with
    | none =>
      rw [hr] at hc55
      have h9 : (0 : Int) ≤ -1 := hc55
      omega
    | some n => exact ⟨n, rfl⟩
  have he3 := iV he2
  have he4 : rtI (rtF m T f e (bV m ini cur (T.getD p nd0).2.1 cur.length ((aE (ouL m cur (T.getD p nd0).2.1)).getD i 0)) (bB m cur (T.getD p nd0).2.1 cur.length ((aE (ouL m cur (T.getD p nd0).2.1)).getD i 0))) = (e2 : Int) := by rw [he2]; rfl
  rw [he4]
  refine ay ?_
  apply k46; clear k46; refine kp [3, 4, 5, 6, 10, 13, 14, 15, 16, 17, 96, 119, 144] ?_
  refine ak hP hN rfl ?_
  iterate 3 (refine aj rfl fun _ k0 => ?_; simp only [zO, zT, acs, reduceCtorEq, aa, V, ad, ag, af, ae, Mly.av, ah, ar, aA, az]; (repeat refine an ?_); (try refine .inl ?_); apply k0; clear k0; simp only [zP, V])
  refine am ?_
  refine ⟨_, _, ?_, ax [3, 4, 5, 6, 10, 13, 14, 15, 16], i + 1, e2, by omega, l7 hD (hkk.trans he2), ⟨by omega, by omega⟩, rfl, rfl⟩
  omega
 (try simp only [zB, reduceCtorEq] at hc45)
 have hie : (T.getD p nd0).2.2.1.length = i := by omega
 have hSS : rtF m T (f + 1) p ini cur = some e := by rw [hrf, hie]; exact hD
 refine aV ?_
 apply k40; clear k40; refine kp [3, 4, 5, 6, 10, 13, 14, 15, 16, 96] ?_
 refine ai fun _ k57 => ?_
 refine ak hP hN rfl ?_
 iterate 2 (refine aj rfl fun _ k0 => ?_; simp only [zO, zT, acs, reduceCtorEq, aa, V, ad, ag, af, ae, Mly.av, ah, ar, aA, az]; (repeat refine an ?_); (try refine .inl ?_); apply k0; clear k0; simp only [zP, V])
 refine am ?_
 apply k57; clear k57; refine kp [3, 4, 5, 6, 10, 13, 14, 15, 16, 96] ?_
 refine aG ?_
 refine ⟨nr, _, rfl, ?_⟩; simp only [zF, zP, aa, V, Mly.av, ah, ar, aA, az]
 refine VLE.of_eq ?_
 refine congrArg (fun n => AV.one (AC.int IntKind.i64 n)) ?_
 first
 | (rw [hNN]; done)
 | (rw [hNN]; rfl)
 | (rw [hSS]; done)
 | (rw [hSS]; rfl)
theorem qQ (m : Mly) (hm : MOK m) (T : List aX) (hT : T.length ≤ 4096) : ∀ (f p : Nat) (ini cur : List Int), T.length + 1 ≤ f + p → p ≤ T.length → cJ m cur → ini.length = cur.length → 0 < cur.length → cur.length ≤ 1000 → bG Try.prog 38 [m.av, .agg [.list ndT T], .one (.int .i64 (p : Int)), .one (.list (.int .i64) ini), .one (.list (.int .i64) cur)] (.one (.int .i64 (rtI (rtF m T f p ini cur))))
  | 0, p, ini, cur, hf, hp, _, _, _, _ => by omega
  | f + 1, p, ini, cur, hf, hp, hs, hil, h0, hl => xU f m hm T hT (qQ m hm T hT f) p ini cur hf hp hs hil h0 hl
theorem zg (m : Mly) (T : List aX) : bG Try.prog 17 [m.av, .agg [.list ndT T]] (.one (.int .i64 (iz m T))) := by
 refine aR Try.func17 rfl (by kernel_rfl) (Nat.le_of_ble_eq_true rfl) rfl fun C hP hN hB => ?_
 replace hN : C.N = 31 := hN
 simp only [bf, V]
 refine ai fun _ k1 => ?_
 refine ak hP hN rfl ?_
 iterate 3 (refine aj rfl fun _ k0 => ?_; simp only [zO, zT, acs, reduceCtorEq, aa, V, ad, ag, af, ae, Mly.av, b6]; (repeat refine an ?_); (try refine .inl ?_); apply k0; clear k0; simp only [zP, V])
 refine am ?_
 apply k1; clear k1; refine kp [0, 1, 2, 3, 4] ?_
 refine ai fun _ k2 => ?_
 refine ai fun _ k3 => ?_
 refine ak hP hN rfl ?_
 (refine aj rfl fun _ k0 => ?_; simp only [zO, zT, acs, reduceCtorEq, aa, V, ad, ag, af, ae, Mly.av, b6]; (repeat refine an ?_); (try refine .inl ?_); apply k0; clear k0; simp only [zP, V])
 refine aj rfl fun _ k0 => ?_
 refine aK (h := aC (xz m)) rfl rfl (by first | exact rfl | (simp only [ev, zP, aa, V]; exact rfl)) (by simp only [zV, acs, reduceCtorEq, aa, V, ad, ag, af, ae, Mly.av, b6]) ?_
 apply k0; clear k0; simp only [zP, V]
 (refine aj rfl fun _ k0 => ?_; simp only [zO, zT, acs, reduceCtorEq, aa, V, ad, ag, af, ae, Mly.av, b6]; (repeat refine an ?_); (try refine .inl ?_); apply k0; clear k0; simp only [zP, V])
 refine am ?_
 apply k3; clear k3; refine kp [0, 1, 2, 3, 4, 5] ?_
 refine ai fun _ k4 => ?_
 refine ak hP hN rfl ?_
 iterate 2 (refine aj rfl fun _ k0 => ?_; simp only [zO, zT, acs, reduceCtorEq, aa, V, ad, ag, af, ae, Mly.av, b6]; (repeat refine an ?_); (try refine .inl ?_); apply k0; clear k0; simp only [zP, V])
 refine am ?_
 apply k4; clear k4; refine kp [0, 1, 2, 3, 4, 5, 10] ?_
 refine cd (fun hc5 => ?_) (fun hc5 => ?_)
 ·(try simp only [zB, reduceCtorEq] at hc5)
  have hE : ¬ fB m = 0 := hc5
  refine ai fun _ k6 => ?_
  refine ak hP hN rfl ?_
  iterate 2 (refine aj rfl fun _ k0 => ?_; simp only [zO, zT, acs, reduceCtorEq, aa, V, ad, ag, af, ae, Mly.av, b6]; (repeat refine an ?_); (try refine .inl ?_); apply k0; clear k0; simp only [zP, V])
  refine am ?_
  apply k6; clear k6; refine kp [0, 1, 2, 3, 4, 5, 10] ?_
  refine aG ?_
  refine ⟨nr, _, rfl, ?_⟩; simp only [zF, zP, aa, V, Mly.av, b6]
  refine VLE.of_eq ?_
  refine congrArg (fun n => AV.one (AC.int IntKind.i64 n)) ?_
  unfold iz
  symm
  first
  | (rw [if_pos hE]; done)
  | (rw [if_neg (fun h => h hE), if_pos hR]; done)
  | (rw [if_neg (fun h => h hE), if_neg hR]; done)
 (try simp only [zB, reduceCtorEq] at hc5)
 have hE : fB m = 0 := by simpa using hc5
 have hm := fc (AD hE)
 have hn1 := hm.n1
 have hn2 := hm.n2
 refine ay ?_
 apply k2; clear k2; refine kp [0, 1, 2, 3, 4, 5, 10] ?_
 refine ai fun _ k7 => ?_
 refine ak hP hN rfl ?_
 iterate 3 (refine aj rfl fun _ k0 => ?_; simp only [zO, zT, acs, reduceCtorEq, aa, V, ad, ag, af, ae, Mly.av, b6]; (repeat refine an ?_); (try refine .inl ?_); apply k0; clear k0; simp only [zP, V])
 refine aj rfl fun _ k0 => ?_
 refine aK (h := aC (xy m.nx.length (by omega))) rfl rfl (by first | exact rfl | (simp only [ev, zP, aa, V]; exact rfl)) (by simp only [zV, acs, reduceCtorEq, aa, V, ad, ag, af, ae, Mly.av, b6]) ?_
 apply k0; clear k0; simp only [zP, V]
 (refine aj rfl fun _ k0 => ?_; simp only [zO, zT, acs, reduceCtorEq, aa, V, ad, ag, af, ae, Mly.av, b6]; (repeat refine an ?_); (try refine .inl ?_); apply k0; clear k0; simp only [zP, V])
 refine am ?_
 apply k7; clear k7; refine kp [0, 1, 2, 3, 4, 5, 6, 10] ?_
 refine ai fun _ k8 => ?_
 refine ai fun _ k9 => ?_
 refine bj hP hN Try.mixed rfl ?_
 iterate 5 (refine aj rfl fun _ k0 => ?_; simp only [zO, zT, acs, reduceCtorEq, aa, V, ad, ag, af, ae, Mly.av, b6]; (repeat refine an ?_); (try refine .inl ?_); apply k0; clear k0; simp only [zP, V])
 refine' aN (want := false) 9 rfl (m := 20) (by simp only [zP, aa, V]; exact rfl) (by kernel_rfl) rfl rfl rfl rfl rfl (fun hg10 => ?a10) ?b10 ?c10
 case a10 =>
  have hq10 := hg10; (try simp only [zB, reduceCtorEq] at hg10); simp only [zE]
  iterate 4 (refine aY rfl fun _ k0 => ?_; simp only [zO, zT, acs, reduceCtorEq, aa, V, ad, ag, af, ae, Mly.av, b6]; (repeat refine an ?_); (try refine .inl ?_); apply k0; clear k0; simp only [zP, V])
  refine aY rfl fun _ k0 => ?_
  refine aK (h := aC (qQ m hm T (by omega) (T.length + 1) 0 (rgI m.nx.length) (rgI m.nx.length) (by omega) (by omega) (mc m) rfl (by rw [db]; omega) (by rw [db]; omega))) rfl rfl (by first | exact rfl | (simp only [ev, zP, aa, V]; exact rfl)) (by simp only [zV, acs, reduceCtorEq, aa, V, ad, ag, af, ae, Mly.av, b6]) ?_
  apply k0; clear k0; simp only [zP, V]
  iterate 4 (refine aY rfl fun _ k0 => ?_; simp only [zO, zT, acs, reduceCtorEq, aa, V, ad, ag, af, ae, Mly.av, b6]; (repeat refine an ?_); (try refine .inl ?_); apply k0; clear k0; simp only [zP, V])
  (refine aj rfl fun _ k0 => ?_; simp only [zO, zT, acs, reduceCtorEq, aa, V, ad, ag, af, ae, Mly.av, b6]; (repeat refine an ?_); (try refine .inl ?_); apply k0; clear k0; simp only [zP, V])
  refine am ?_
  refine ⟨by simp only [zP, aa, V]; exact rfl, rfl, ?_, rfl⟩; (repeat refine aM rfl ?_); exact bm (by exact rfl) hq10
 case b10 => exact bZ
 simp only [b7, aU]
 refine am ?_
 refine ⟨by kernel_rfl, ?_⟩
 apply k9; clear k9; refine kp [0, 1, 2, 3, 4, 5, 6, 10, 30] ?_
 refine cd (fun hc11 => ?_) (fun hc11 => ?_)
 ·(try simp only [zB, reduceCtorEq] at hc11)
  have hR : 4096 < T.length ∨ ¬ rtF m T (T.length + 1) 0 (rgI m.nx.length) (rgI m.nx.length) = some T.length := Or.elim hc11 (fun h9 => .inl (by omega)) (fun h9 => .inr (fun e => h9 (tl.2 e)))
  refine ai fun _ k12 => ?_
  refine ak hP hN rfl ?_
  (refine aj rfl fun _ k0 => ?_; simp only [zO, zT, acs, reduceCtorEq, aa, V, ad, ag, af, ae, Mly.av, b6]; (repeat refine an ?_); (try refine .inl ?_); apply k0; clear k0; simp only [zP, V])
  refine am ?_
  apply k12; clear k12; refine kp [0, 1, 2, 3, 4, 5, 6, 10, 30] ?_
  refine aG ?_
  refine ⟨nr, _, rfl, ?_⟩; simp only [zF, zP, aa, V, Mly.av, b6]
  refine VLE.of_eq ?_
  refine congrArg (fun n => AV.one (AC.int IntKind.i64 n)) ?_
  unfold iz
  symm
  first
  | (rw [if_pos hE]; done)
  | (rw [if_neg (fun h => h hE), if_pos hR]; done)
  | (rw [if_neg (fun h => h hE), if_neg hR]; done)
 (try simp only [zB, reduceCtorEq] at hc11)
 have hR : ¬ (4096 < T.length ∨ ¬ rtF m T (T.length + 1) 0 (rgI m.nx.length) (rgI m.nx.length) = some T.length) := fun h => Or.elim h (fun h9 => by omega) (fun h9 => h9 (tl.1 hc11.2))
 refine ay ?_
 apply k8; clear k8; refine kp [0, 1, 2, 3, 4, 5, 6, 10, 30] ?_
 refine ai fun _ k13 => ?_
 refine ak hP hN rfl ?_
 (refine aj rfl fun _ k0 => ?_; simp only [zO, zT, acs, reduceCtorEq, aa, V, ad, ag, af, ae, Mly.av, b6]; (repeat refine an ?_); (try refine .inl ?_); apply k0; clear k0; simp only [zP, V])
 refine am ?_
 apply k13; clear k13; refine kp [0, 1, 2, 3, 4, 5, 6, 10, 30] ?_
 refine aG ?_
 refine ⟨nr, _, rfl, ?_⟩; simp only [zF, zP, aa, V, Mly.av, b6]
 refine VLE.of_eq ?_
 refine congrArg (fun n => AV.one (AC.int IntKind.i64 n)) ?_
 unfold iz
 symm
 first
 | (rw [if_pos hE]; done)
 | (rw [if_neg (fun h => h hE), if_pos hR]; done)
 | (rw [if_neg (fun h => h hE), if_neg hR]; done)
theorem Az (T : List aX) (hT : T.length ≤ 100000) : bG Try.prog 19 [.agg [.list ndT T]] (.one (.bool (gO T))) := by
 refine aR Try.func19 rfl (by kernel_rfl) (Nat.le_of_ble_eq_true rfl) rfl fun C hP hN hB => ?_
 replace hN : C.N = 32 := hN
 simp only [bf, V]
 refine ai fun _ k1 => ?_
 refine ak hP hN rfl ?_
 iterate 2 (refine aj rfl fun _ k0 => ?_; simp only [zO, zT, acs, reduceCtorEq, aa, V, ad, ag, af, ae, ah, ar, aA, az]; (repeat refine an ?_); (try refine .inl ?_); apply k0; clear k0; simp only [zP, V])
 refine am ?_
 apply k1; clear k1; refine kp [0, 1, 2] ?_
 refine ai fun _ k2 => ?_
 refine ai fun _ k3 => ?_
 refine ak hP hN rfl ?_
 (refine aj rfl fun _ k0 => ?_; simp only [zO, zT, acs, reduceCtorEq, aa, V, ad, ag, af, ae, ah, ar, aA, az]; (repeat refine an ?_); (try refine .inl ?_); apply k0; clear k0; simp only [zP, V])
 refine am ?_
 apply k3; clear k3; refine kp [0, 1, 2, 3] ?_
 refine aB ?_
 refine aZ (fun n4 s4 => ∃ (i : Nat), (i ≤ T.length) ∧ (∀ j, j < i → ¬ ((T.getD j nd0).2.1 = -1 ∧ ¬ (T.getD j nd0).1.length = 1)) ∧ n4 = T.length - i ∧ s4 = { env := [(1, .one (.ptr 0 0 0 0)), (2, .one (.bool false)), (3, .one (.int .i64 (i : Int)))], L := [.vars 29 [.list ndT T]] }) ?_ ?_
 ·exact ⟨_, _, ax [1, 2, 3], 0, Nat.zero_le _, fun j h => by omega, rfl, rfl⟩
 rintro n4 s4 ⟨i, hi, hu, rfl, rfl⟩
 refine ai fun _ k5 => ?_
 refine ai fun _ k6 => ?_
 refine ak hP hN rfl ?_
 iterate 5 (refine aj rfl fun _ k0 => ?_; simp only [zO, zT, acs, reduceCtorEq, aa, V, ad, ag, af, ae, ah, ar, aA, az]; (repeat refine an ?_); (try refine .inl ?_); apply k0; clear k0; simp only [zP, V])
 refine am ?_
 apply k6; clear k6; refine kp [1, 2, 3, 8] ?_
 refine cd (fun hc7 => ?_) (fun hc7 => ?_)
 ·(try simp only [zB, reduceCtorEq] at hc7)
  refine ay ?_
  apply k5; clear k5; refine kp [1, 2, 3, 8] ?_
  refine ai fun _ k8 => ?_
  refine aB ?_
  refine ai fun _ k9 => ?_
  refine ak hP hN rfl ?_
  iterate 8 (refine aj rfl fun _ k0 => ?_; simp only [zO, zT, acs, reduceCtorEq, aa, V, ad, ag, af, ae, ah, ar, aA, az]; (repeat refine an ?_); (try refine .inl ?_); apply k0; clear k0; simp only [zP, V])
  refine' aN (want := true) 8 rfl (m := 18) (by simp only [zP, aa, V]; exact rfl) (by kernel_rfl) rfl rfl rfl rfl rfl (fun hg10 => ?a10) ?b10 ?c10
  case a10 =>
   have hq10 := hg10; (try simp only [zB, reduceCtorEq] at hg10); simp only [zE]
   iterate 8 (refine aY rfl fun _ k0 => ?_; simp only [zO, zT, acs, reduceCtorEq, aa, V, ad, ag, af, ae, ah, ar, aA, az]; (repeat refine an ?_); (try refine .inl ?_); apply k0; clear k0; simp only [zP, V])
   (refine aj rfl fun _ k0 => ?_; simp only [zO, zT, acs, reduceCtorEq, aa, V, ad, ag, af, ae, ah, ar, aA, az]; (repeat refine an ?_); (try refine .inl ?_); apply k0; clear k0; simp only [zP, V])
   refine am ?_
   refine ⟨by simp only [zP, aa, V]; exact rfl, rfl, ?_, rfl⟩; (repeat refine aM rfl ?_); exact bm (by exact rfl) hq10
  case b10 => exact bZ
  simp only [b7, aU]
  refine am ?_
  apply k9; clear k9; refine kp [1, 2, 3, 8, 27] ?_
  refine cd (fun hc11 => ?_) (fun hc11 => ?_)
  ·(try simp only [zB, reduceCtorEq] at hc11)
   have hno := Bf (T := T) (i := i) (by omega) ⟨hc11.1, fun h => hc11.2 (by rw [h]; rfl)⟩
   refine ai fun _ k12 => ?_
   refine ak hP hN rfl ?_
   (refine aj rfl fun _ k0 => ?_; simp only [zO, zT, acs, reduceCtorEq, aa, V, ad, ag, af, ae, ah, ar, aA, az]; (repeat refine an ?_); (try refine .inl ?_); apply k0; clear k0; simp only [zP, V])
   refine am ?_
   apply k12; clear k12; refine kp [1, 2, 3, 8, 27] ?_
   refine aG ?_
   refine ⟨nr, _, rfl, ?_⟩; simp only [zF, zP, aa, V, ah, ar, aA, az]
   refine VLE.of_eq ?_
   refine congrArg (fun b => AV.one (AC.bool b)) ?_
   symm
   first
   | exact hno
   | (rw [wO (T := T) (fun j h => hu j (by omega))]; rw [decide_eq_decide]; omega)
  (try simp only [zB, reduceCtorEq] at hc11)
  have hyes : ¬ ((T.getD i nd0).2.1 = -1 ∧ ¬ (T.getD i nd0).1.length = 1) := fun h => Or.elim hc11 (fun h9 => h9 h.1) (fun h9 => h.2 (by have h8 : ((T.getD i nd0).1.length : Int) = 1 := h9; omega))
  refine ay ?_
  apply k8; clear k8; refine kp [1, 2, 3, 8, 27] ?_
  refine ak hP hN rfl ?_
  iterate 3 (refine aj rfl fun _ k0 => ?_; simp only [zO, zT, acs, reduceCtorEq, aa, V, ad, ag, af, ae, ah, ar, aA, az]; (repeat refine an ?_); (try refine .inl ?_); apply k0; clear k0; simp only [zP, V])
  refine am ?_
  refine ⟨_, _, ?_, ax [1, 2, 3], i + 1, by omega, fun j h => ?_, rfl, rfl⟩
  · omega
  · by_cases e : j = i
    · rw [e]; exact hyes
    · exact hu j (by omega)
 (try simp only [zB, reduceCtorEq] at hc7)
 refine aV ?_
 apply k2; clear k2; refine kp [1, 2, 3, 8] ?_
 refine ai fun _ k13 => ?_
 refine ak hP hN rfl ?_
 iterate 5 (refine aj rfl fun _ k0 => ?_; simp only [zO, zT, acs, reduceCtorEq, aa, V, ad, ag, af, ae, ah, ar, aA, az]; (repeat refine an ?_); (try refine .inl ?_); apply k0; clear k0; simp only [zP, V])
 refine am ?_
 apply k13; clear k13; refine kp [1, 2, 3, 8] ?_
 refine aG ?_
 refine ⟨nr, _, rfl, ?_⟩; simp only [zF, zP, aa, V, ah, ar, aA, az]
 refine VLE.of_eq ?_
 refine congrArg (fun b => AV.one (AC.bool b)) ?_
 symm
 first
 | exact hno
 | (rw [wO (T := T) (fun j h => hu j (by omega))]; rw [decide_eq_decide]; omega)
theorem y4 (f : Nat) (T : List aX) (hT : T.length ≤ 4096) (hK : ∀ x ∈ T, x.2.2.1.length ≤ 1000000) (IH : ∀ p : Nat, p < T.length → T.length ≤ f + p → bG Try.prog 40 [.agg [.list ndT T], .one (.int .i64 (p : Int))] (.one (.int .i64 (dpF T f p)))) (p : Nat) (hp : p < T.length) (hf : T.length ≤ (f + 1) + p) : bG Try.prog 40 [.agg [.list ndT T], .one (.int .i64 (p : Int))] (.one (.int .i64 (dpF T (f + 1) p))) := by
 have hkm : (T.getD p nd0) ∈ T := by simp [List.getD, hp]
 have hkl := hK _ hkm
 refine aR Try.func40 rfl (by kernel_rfl) (Nat.le_of_ble_eq_true rfl) rfl fun C hP hN hB => ?_
 replace hN : C.N = 46 := hN
 simp only [bf, V]
 refine ai fun _ k1 => ?_
 refine ak hP hN rfl ?_
 iterate 2 (refine aj rfl fun _ k0 => ?_; simp only [zO, zT, acs, reduceCtorEq, aa, V, ad, ag, af, ae, ah, ar, aA, az]; (repeat refine an ?_); (try refine .inl ?_); apply k0; clear k0; simp only [zP, V])
 refine am ?_
 apply k1; clear k1; refine kp [0, 1, 2, 4] ?_
 refine ai fun _ k2 => ?_
 refine ak hP hN rfl ?_
 (refine aj rfl fun _ k0 => ?_; simp only [zO, zT, acs, reduceCtorEq, aa, V, ad, ag, af, ae, ah, ar, aA, az]; (repeat refine an ?_); (try refine .inl ?_); apply k0; clear k0; simp only [zP, V])
 refine am ?_
 apply k2; clear k2; refine kp [0, 1, 2, 4, 5] ?_
 refine ai fun _ k3 => ?_
 refine ai fun _ k4 => ?_
 refine ak hP hN rfl ?_
 (refine aj rfl fun _ k0 => ?_; simp only [zO, zT, acs, reduceCtorEq, aa, V, ad, ag, af, ae, ah, ar, aA, az]; (repeat refine an ?_); (try refine .inl ?_); apply k0; clear k0; simp only [zP, V])
 refine am ?_
 apply k4; clear k4; refine kp [0, 1, 2, 4, 5, 6] ?_
 refine aB ?_
 refine aZ (fun n5 s5 => ∃ (i : Nat), (i ≤ (T.getD p nd0).2.2.1.length) ∧ n5 = (T.getD p nd0).2.2.1.length - i ∧ s5 = { env := [(1, .one (.int .i64 (p : Int))), (2, .one (.ptr 0 0 0 0)), (4, .one (.int .i64 0)), (5, .one (.int .i64 (((T.getD p nd0).2.2.1.take i).foldl (dO T (dpF T f) p) 0))), (6, .one (.int .i64 (i : Int)))], L := [.vars 29 [.list ndT T]] }) ?_ ?_
 ·exact ⟨_, _, ax [1, 2, 4, 5, 6], 0, Nat.zero_le _, rfl, rfl⟩
 rintro n5 s5 ⟨i, hi, rfl, rfl⟩
 refine ai fun _ k6 => ?_
 refine ai fun _ k7 => ?_
 refine ak hP hN rfl ?_
 iterate 9 (refine aj rfl fun _ k0 => ?_; simp only [zO, zT, acs, reduceCtorEq, aa, V, ad, ag, af, ae, ah, ar, aA, az]; (repeat refine an ?_); (try refine .inl ?_); apply k0; clear k0; simp only [zP, V])
 refine am ?_
 apply k7; clear k7; refine kp [1, 2, 4, 5, 6, 16] ?_
 refine cd (fun hc8 => ?_) (fun hc8 => ?_)
 ·(try simp only [zB, reduceCtorEq] at hc8)
  have hil9 : i < (T.getD p nd0).2.2.1.length := by have h9 : (i : Int) < ((T.getD p nd0).2.2.1.length : Int) := hc8; omega
  refine ay ?_
  apply k6; clear k6; refine kp [1, 2, 4, 5, 6, 16] ?_
  refine ai fun _ k9 => ?_
  refine aB ?_
  refine ai fun _ k10 => ?_
  have hil : i < (T.getD p nd0).2.2.1.length := hil9
  refine ak hP hN rfl ?_
  iterate 11 (refine aj rfl fun _ k0 => ?_; simp only [zO, zT, acs, reduceCtorEq, aa, V, ad, ag, af, ae, ah, ar, aA, az]; (repeat refine an ?_); (try refine .inl ?_); apply k0; clear k0; simp only [zP, V])
  refine am ?_
  apply k10; clear k10; refine kp [1, 2, 4, 5, 6, 7, 16] ?_
  refine ai fun _ k11 => ?_
  have hdt := tF (T := T) (r := dpF T f) (p := p) hil
  have hr9 := kj (r := dpF T f) hp (fun k hk hl => mq f k hl (by omega)) ((T.getD p nd0).2.2.1.take i) 0 ⟨Int.le_refl _, by omega⟩
  refine ak hP hN rfl ?_
  iterate 4 (refine aj rfl fun _ k0 => ?_; simp only [zO, zT, acs, reduceCtorEq, aa, V, ad, ag, af, ae, ah, ar, aA, az]; (repeat refine an ?_); (try refine .inl ?_); apply k0; clear k0; simp only [zP, V])
  refine' aN (want := true) 5 rfl (m := 32) (by simp only [zP, aa, V]; exact rfl) (by kernel_rfl) rfl rfl rfl rfl rfl (fun hg12 => ?a12) ?b12 ?c12
  case a12 =>
   have hq12 := hg12; (try simp only [zB, reduceCtorEq] at hg12); simp only [zE]
   iterate 5 (refine aY rfl fun _ k0 => ?_; simp only [zO, zT, acs, reduceCtorEq, aa, V, ad, ag, af, ae, ah, ar, aA, az]; (repeat refine an ?_); (try refine .inl ?_); apply k0; clear k0; simp only [zP, V])
   (refine aj rfl fun _ k0 => ?_; simp only [zO, zT, acs, reduceCtorEq, aa, V, ad, ag, af, ae, ah, ar, aA, az]; (repeat refine an ?_); (try refine .inl ?_); apply k0; clear k0; simp only [zP, V])
   refine am ?_
   refine ⟨by simp only [zP, aa, V]; exact rfl, rfl, ?_, rfl⟩; (repeat refine aM rfl ?_); exact bm (by exact rfl) hq12
  case b12 => exact bZ
  simp only [b7, aU]
  refine am ?_
  apply k11; clear k11; refine kp [1, 2, 4, 5, 6, 7, 16, 38] ?_
  refine cd (fun hc13 => ?_) (fun hc13 => ?_)
  ·(try simp only [zB, reduceCtorEq] at hc13)
   have hkc := hc13
   have hkr : (p : Int) < ((T.getD p nd0).2.2.1.getD i kd0).2.1 ∧ ((T.getD p nd0).2.2.1.getD i kd0).2.1 < (T.length : Int) := hkc
   have hto : ((((T.getD p nd0).2.2.1.getD i kd0).2.1.toNat : Nat) : Int) = ((T.getD p nd0).2.2.1.getD i kd0).2.1 := by omega
   have hr8 := mq (T := T) f ((T.getD p nd0).2.2.1.getD i kd0).2.1.toNat (by omega) (by omega)
   rw [← hto]
   refine ak hP hN rfl ?_
   iterate 3 (refine aj rfl fun _ k0 => ?_; simp only [zO, zT, acs, reduceCtorEq, aa, V, ad, ag, af, ae, ah, ar, aA, az]; (repeat refine an ?_); (try refine .inl ?_); apply k0; clear k0; simp only [zP, V])
   refine aj rfl fun _ k0 => ?_
   refine aK (h := aC (IH ((T.getD p nd0).2.2.1.getD i kd0).2.1.toNat (by omega) (by omega))) rfl rfl (by first | exact rfl | (simp only [ev, zP, aa, V]; exact rfl)) (by simp only [zV, acs, reduceCtorEq, aa, V, ad, ag, af, ae, ah, ar, aA, az]) ?_
   apply k0; clear k0; simp only [zP, V]
   iterate 3 (refine aj rfl fun _ k0 => ?_; simp only [zO, zT, acs, reduceCtorEq, aa, V, ad, ag, af, ae, ah, ar, aA, az]; (repeat refine an ?_); (try refine .inl ?_); apply k0; clear k0; simp only [zP, V])
   refine am ?_
   apply k9; clear k9; refine kp [1, 2, 4, 5, 6, 7, 16, 38] ?_
   refine ak hP hN rfl ?_
   iterate 3 (refine aj rfl fun _ k0 => ?_; simp only [zO, zT, acs, reduceCtorEq, aa, V, ad, ag, af, ae, ah, ar, aA, az]; (repeat refine an ?_); (try refine .inl ?_); apply k0; clear k0; simp only [zP, V])
   refine am ?_
   first
   | (refine ⟨_, _, ?_, ax [1, 2, 4, 5, 6], i + 1, by omega, rfl, ?_⟩
      · omega
      · rw [hdt]; unfold dO; rw [if_pos hkr]; all_goals rfl)
   | (refine ⟨_, _, ?_, ax [1, 2, 4, 5, 6], i + 1, by omega, rfl, ?_⟩
      · omega
      · rw [hdt]; unfold dO; rw [if_neg hkc]; all_goals rfl)
  (try simp only [zB, reduceCtorEq] at hc13)
  have hkc : ¬ ((p : Int) < ((T.getD p nd0).2.2.1.getD i kd0).2.1 ∧ ((T.getD p nd0).2.2.1.getD i kd0).2.1 < (T.length : Int)) := by
    have h8 : ((T.getD p nd0).2.2.1.getD i kd0).2.1 ≤ (p : Int) ∨ (T.length : Int) ≤ ((T.getD p nd0).2.2.1.getD i kd0).2.1 := hc13
    omega
  refine ay ?_
  apply k9; clear k9; refine kp [1, 2, 4, 5, 6, 7, 16, 38] ?_
  refine ak hP hN rfl ?_
  iterate 3 (refine aj rfl fun _ k0 => ?_; simp only [zO, zT, acs, reduceCtorEq, aa, V, ad, ag, af, ae, ah, ar, aA, az]; (repeat refine an ?_); (try refine .inl ?_); apply k0; clear k0; simp only [zP, V])
  refine am ?_
  first
  | (refine ⟨_, _, ?_, ax [1, 2, 4, 5, 6], i + 1, by omega, rfl, ?_⟩
     · omega
     · rw [hdt]; unfold dO; rw [if_pos hkr]; all_goals rfl)
  | (refine ⟨_, _, ?_, ax [1, 2, 4, 5, 6], i + 1, by omega, rfl, ?_⟩
     · omega
     · rw [hdt]; unfold dO; rw [if_neg hkc]; all_goals rfl)
 (try simp only [zB, reduceCtorEq] at hc8)
 have hie : (T.getD p nd0).2.2.1.length ≤ i := by have h9 : ((T.getD p nd0).2.2.1.length : Int) ≤ (i : Int) := hc8; omega
 refine aV ?_
 apply k3; clear k3; refine kp [1, 2, 4, 5, 6, 16] ?_
 refine ai fun _ k14 => ?_
 refine ak hP hN rfl ?_
 iterate 2 (refine aj rfl fun _ k0 => ?_; simp only [zO, zT, acs, reduceCtorEq, aa, V, ad, ag, af, ae, ah, ar, aA, az]; (repeat refine an ?_); (try refine .inl ?_); apply k0; clear k0; simp only [zP, V])
 refine am ?_
 apply k14; clear k14; refine kp [1, 2, 4, 5, 6, 16] ?_
 refine aG ?_
 refine ⟨nr, _, rfl, ?_⟩; simp only [zF, zP, aa, V, ah, ar, aA, az]
 refine VLE.of_eq ?_
 refine congrArg (fun n => AV.one (AC.int IntKind.i64 n)) ?_
 show ((T.getD p nd0).2.2.1.take i).foldl (dO T (dpF T f) p) 0 = (T.getD p nd0).2.2.1.foldl (dO T (dpF T f) p) 0
 rw [List.take_of_length_le hie]
theorem qB (T : List aX) (hT : T.length ≤ 4096) (hK : ∀ x ∈ T, x.2.2.1.length ≤ 1000000) : ∀ (f p : Nat), p < T.length → T.length ≤ f + p → bG Try.prog 40 [.agg [.list ndT T], .one (.int .i64 (p : Int))] (.one (.int .i64 (dpF T f p)))
  | 0, p, hp, hf => by omega
  | f + 1, p, hp, hf => y4 f T hT hK (qB T hT hK f) p hp hf
theorem vF (T : List aX) (hT : T.length ≤ 4096) (hK : ∀ x ∈ T, x.2.2.1.length ≤ 1000000) (h0 : 0 < T.length) : bG Try.prog 40 [.agg [.list ndT T], .one (.int .i64 0)] (.one (.int .i64 (dpA T 0))) :=
  qB T hT hK (T.length - 0) 0 h0 (by omega)
theorem Al (T : List aX) (hT : T.length ≤ 4096) (hK : ∀ x ∈ T, x.2.2.1.length ≤ 1000000) : bG Try.prog 21 [.agg [.list ndT T]] (.one (.int .i64 (dpT T))) := by
 refine aR Try.func21 rfl (by kernel_rfl) (Nat.le_of_ble_eq_true rfl) rfl fun C hP hN hB => ?_
 replace hN : C.N = 9 := hN
 simp only [bf, V]
 refine ai fun _ k1 => ?_
 refine ak hP hN rfl ?_
 iterate 2 (refine aj rfl fun _ k0 => ?_; simp only [zO, zT, acs, reduceCtorEq, aa, V, ad, ag, af, ae]; (repeat refine an ?_); (try refine .inl ?_); apply k0; clear k0; simp only [zP, V])
 refine am ?_
 apply k1; clear k1; refine kp [0, 1, 2] ?_
 refine ai fun _ k2 => ?_
 refine ai fun _ k3 => ?_
 refine ak hP hN rfl ?_
 iterate 4 (refine aj rfl fun _ k0 => ?_; simp only [zO, zT, acs, reduceCtorEq, aa, V, ad, ag, af, ae]; (repeat refine an ?_); (try refine .inl ?_); apply k0; clear k0; simp only [zP, V])
 refine am ?_
 apply k3; clear k3; refine kp [0, 1, 2, 6] ?_
 refine cd (fun hc4 => ?_) (fun hc4 => ?_)
 ·(try simp only [zB, reduceCtorEq] at hc4)
  refine ai fun _ k5 => ?_
  refine ak hP hN rfl ?_
  (refine aj rfl fun _ k0 => ?_; simp only [zO, zT, acs, reduceCtorEq, aa, V, ad, ag, af, ae]; (repeat refine an ?_); (try refine .inl ?_); apply k0; clear k0; simp only [zP, V])
  refine am ?_
  apply k5; clear k5; refine kp [0, 1, 2, 6] ?_
  refine aG ?_
  refine ⟨nr, _, rfl, ?_⟩; simp only [zF, zP, aa, V]
  refine VLE.of_eq ?_
  refine congrArg (fun n => AV.one (AC.int IntKind.i64 n)) ?_
  unfold dpT
  symm
  first
  | (rw [if_pos (by omega)]; done)
  | (rw [if_neg (by omega)]; done)
 (try simp only [zB, reduceCtorEq] at hc4)
 refine ay ?_
 apply k2; clear k2; refine kp [0, 1, 2, 6] ?_
 refine ai fun _ k6 => ?_
 refine ak hP hN rfl ?_
 (refine aj rfl fun _ k0 => ?_; simp only [zO, zT, acs, reduceCtorEq, aa, V, ad, ag, af, ae]; (repeat refine an ?_); (try refine .inl ?_); apply k0; clear k0; simp only [zP, V])
 refine aj rfl fun _ k0 => ?_
 refine aK (h := aC (vF T hT hK (by omega))) rfl rfl (by first | exact rfl | (simp only [ev, zP, aa, V]; exact rfl)) (by simp only [zV, acs, reduceCtorEq, aa, V, ad, ag, af, ae]) ?_
 apply k0; clear k0; simp only [zP, V]
 (refine aj rfl fun _ k0 => ?_; simp only [zO, zT, acs, reduceCtorEq, aa, V, ad, ag, af, ae]; (repeat refine an ?_); (try refine .inl ?_); apply k0; clear k0; simp only [zP, V])
 refine am ?_
 apply k6; clear k6; refine kp [0, 1, 2, 6] ?_
 refine aG ?_
 refine ⟨nr, _, rfl, ?_⟩; simp only [zF, zP, aa, V]
 refine VLE.of_eq ?_
 refine congrArg (fun n => AV.one (AC.int IntKind.i64 n)) ?_
 unfold dpT
 symm
 first
 | (rw [if_pos (by omega)]; done)
 | (rw [if_neg (by omega)]; done)
set_option maxHeartbeats 1000000 in
theorem vJ (m : Mly) : bG Try.prog 31 [m.av] (.one (.bool (iR m))) := by
 refine aR Try.func31 rfl (by kernel_rfl) (Nat.le_of_ble_eq_true rfl) rfl fun C hP hN hB => ?_
 replace hN : C.N = 48 := hN
 simp only [bf, V]
 refine ai fun _ k1 => ?_
 refine ak hP hN rfl ?_
 iterate 2 (refine aj rfl fun _ k0 => ?_; simp only [zO, zT, acs, reduceCtorEq, aa, V, ad, ag, af, ae, Mly.av, ah]; (repeat refine an ?_); (try refine .inl ?_); apply k0; clear k0; simp only [zP, V])
 refine am ?_
 apply k1; clear k1; refine kp [0, 1, 2] ?_
 refine ai fun _ k2 => ?_
 refine ai fun _ k3 => ?_
 refine ak hP hN rfl ?_
 iterate 5 (refine aj rfl fun _ k0 => ?_; simp only [zO, zT, acs, reduceCtorEq, aa, V, ad, ag, af, ae, Mly.av, ah]; (repeat refine an ?_); (try refine .inl ?_); apply k0; clear k0; simp only [zP, V])
 refine' aN (want := false) 4 rfl (m := 9) (by simp only [zP, aa, V]; exact rfl) (by kernel_rfl) rfl rfl rfl rfl rfl (fun hg4 => ?a4) ?b4 ?c4
 case a4 =>
  have hq4 := hg4; (try simp only [zB, reduceCtorEq] at hg4); simp only [zE]
  iterate 4 (refine aY rfl fun _ k0 => ?_; simp only [zO, zT, acs, reduceCtorEq, aa, V, ad, ag, af, ae, Mly.av, ah]; (repeat refine an ?_); (try refine .inl ?_); apply k0; clear k0; simp only [zP, V])
  (refine aj rfl fun _ k0 => ?_; simp only [zO, zT, acs, reduceCtorEq, aa, V, ad, ag, af, ae, Mly.av, ah]; (repeat refine an ?_); (try refine .inl ?_); apply k0; clear k0; simp only [zP, V])
  refine am ?_
  refine ⟨by simp only [zP, aa, V]; exact rfl, rfl, ?_, rfl⟩; (repeat refine aM rfl ?_); exact bm (by exact rfl) hq4
 case b4 => exact bZ
 simp only [b7, aU]
 (refine aj rfl fun _ k0 => ?_; simp only [zO, zT, acs, reduceCtorEq, aa, V, ad, ag, af, ae, Mly.av, ah]; (repeat refine an ?_); (try refine .inl ?_); apply k0; clear k0; simp only [zP, V])
 refine' aN (want := false) 3 rfl (m := 15) (by simp only [zP, aa, V]; exact rfl) (by kernel_rfl) rfl rfl rfl rfl rfl (fun hg5 => ?a5) ?b5 ?c5
 case a5 =>
  have hq5 := hg5; (try simp only [zB, reduceCtorEq] at hg5); simp only [zE]
  iterate 3 (refine aY rfl fun _ k0 => ?_; simp only [zO, zT, acs, reduceCtorEq, aa, V, ad, ag, af, ae, Mly.av, ah]; (repeat refine an ?_); (try refine .inl ?_); apply k0; clear k0; simp only [zP, V])
  (refine aj rfl fun _ k0 => ?_; simp only [zO, zT, acs, reduceCtorEq, aa, V, ad, ag, af, ae, Mly.av, ah]; (repeat refine an ?_); (try refine .inl ?_); apply k0; clear k0; simp only [zP, V])
  refine am ?_
  refine ⟨by simp only [zP, aa, V]; exact rfl, rfl, ?_, rfl⟩; (repeat refine aM rfl ?_); exact bm (by exact rfl) hq5
 case b5 => exact bZ
 simp only [b7, aU]
 refine am ?_
 apply k3; clear k3; refine kp [0, 1, 2, 19] ?_
 refine cd (fun hc6 => ?_) (fun hc6 => ?_)
 ·(try simp only [zB, reduceCtorEq] at hc6)
  have hg : iR m = true := Ap (Or.elim hc6 (fun h9 => .inl (Or.elim h9 (fun h8 => .inl (by have h7 : (12 : Int) < (m.nx.length : Int) := h8; omega)) (fun h8 => .inr (by have h7 : (12 : Int) < (m.ot.length : Int) := h8; omega)))) (fun h9 => .inr h9))
  refine ai fun _ k7 => ?_
  refine ak hP hN rfl ?_
  (refine aj rfl fun _ k0 => ?_; simp only [zO, zT, acs, reduceCtorEq, aa, V, ad, ag, af, ae, Mly.av, ah]; (repeat refine an ?_); (try refine .inl ?_); apply k0; clear k0; simp only [zP, V])
  refine am ?_
  apply k7; clear k7; refine kp [0, 1, 2, 19] ?_
  refine aG ?_
  refine ⟨nr, _, rfl, ?_⟩; simp only [zF, zP, aa, V, Mly.av, ah]
  refine VLE.of_eq ?_
  refine congrArg (fun b => AV.one (AC.bool b)) ?_
  symm
  first
  | exact hg
  | exact o7 hg0 hqN (fun q h => hqo q (by omega))
 (try simp only [zB, reduceCtorEq] at hc6)
 have hg0 : ¬ ((12 < m.nx.length ∨ 12 < m.ot.length) ∨ 6 < m.inp) := by
   have h7 : (m.nx.length : Int) ≤ 12 := hc6.1.1
   have h8 : (m.ot.length : Int) ≤ 12 := hc6.1.2
   have h9 : m.inp ≤ 6 := hc6.2
   omega
 refine ay ?_
 apply k2; clear k2; refine kp [0, 1, 2, 19] ?_
 refine ai fun _ k8 => ?_
 refine ai fun _ k9 => ?_
 refine ak hP hN rfl ?_
 iterate 4 (refine aj rfl fun _ k0 => ?_; simp only [zO, zT, acs, reduceCtorEq, aa, V, ad, ag, af, ae, Mly.av, ah]; (repeat refine an ?_); (try refine .inl ?_); apply k0; clear k0; simp only [zP, V])
 refine am ?_
 apply k9; clear k9; refine kp [0, 1, 2, 19, 22, 23] ?_
 refine aB ?_
 refine aZ (fun n10 s10 => ∃ (k : Nat), (k ≤ m.nx.length) ∧ (∀ q, q < k → (m.nx.getD q []).length ≤ 12) ∧ n10 = m.nx.length - k ∧ s10 = { env := [(1, .one (.ptr 0 0 0 0)), (2, .one (.bool false)), (22, .one (.int .i64 (m.nx.length : Int))), (23, .one (.int .i64 (k : Int)))], L := [.vars 24 [.int .i64 m.inp, .int .i64 m.st, .list (.list (.int .i64)) m.nx, .list (.list (.int .i64)) m.ot]] }) ?_ ?_
 ·exact ⟨_, _, ax [1, 2, 22, 23], 0, Nat.zero_le _, fun q h => by omega, rfl, rfl⟩
 rintro n10 s10 ⟨k, hkn, hqn, rfl, rfl⟩
 refine ai fun _ k11 => ?_
 refine ak hP hN rfl ?_
 (refine aj rfl fun _ k0 => ?_; simp only [zO, zT, acs, reduceCtorEq, aa, V, ad, ag, af, ae, Mly.av, ah]; (repeat refine an ?_); (try refine .inl ?_); apply k0; clear k0; simp only [zP, V])
 refine am ?_
 apply k11; clear k11; refine kp [1, 2, 22, 23, 24] ?_
 refine ai fun _ k12 => ?_
 refine cd (fun hc13 => ?_) (fun hc13 => ?_)
 ·(try simp only [zB, reduceCtorEq] at hc13)
  refine ay ?_
  apply k12; clear k12; refine kp [1, 2, 22, 23, 24] ?_
  refine ai fun _ k14 => ?_
  refine aB ?_
  refine ai fun _ k15 => ?_
  refine ak hP hN rfl ?_
  iterate 2 (refine aj rfl fun _ k0 => ?_; simp only [zO, zT, acs, reduceCtorEq, aa, V, ad, ag, af, ae, Mly.av, ah]; (repeat refine an ?_); (try refine .inl ?_); apply k0; clear k0; simp only [zP, V])
  refine am ?_
  apply k15; clear k15; refine kp [1, 2, 3, 22, 23, 24] ?_
  refine ai fun _ k16 => ?_
  refine ak hP hN rfl ?_
  iterate 7 (refine aj rfl fun _ k0 => ?_; simp only [zO, zT, acs, reduceCtorEq, aa, V, ad, ag, af, ae, Mly.av, ah]; (repeat refine an ?_); (try refine .inl ?_); apply k0; clear k0; simp only [zP, V])
  refine am ?_
  apply k16; clear k16; refine kp [1, 2, 3, 22, 23, 24, 32] ?_
  refine cd (fun hc17 => ?_) (fun hc17 => ?_)
  ·(try simp only [zB, reduceCtorEq] at hc17)
   have hg : iR m = true := AI (k := k) (by omega) (by have h7 : (12 : Int) < ((m.nx.getD k []).length : Int) := hc17; omega)
   refine ai fun _ k18 => ?_
   refine ak hP hN rfl ?_
   (refine aj rfl fun _ k0 => ?_; simp only [zO, zT, acs, reduceCtorEq, aa, V, ad, ag, af, ae, Mly.av, ah]; (repeat refine an ?_); (try refine .inl ?_); apply k0; clear k0; simp only [zP, V])
   refine am ?_
   apply k18; clear k18; refine kp [1, 2, 3, 22, 23, 24, 32] ?_
   refine aG ?_
   refine ⟨nr, _, rfl, ?_⟩; simp only [zF, zP, aa, V, Mly.av, ah]
   refine VLE.of_eq ?_
   refine congrArg (fun b => AV.one (AC.bool b)) ?_
   symm
   first
   | exact hg
   | exact o7 hg0 hqN (fun q h => hqo q (by omega))
  (try simp only [zB, reduceCtorEq] at hc17)
  have hrow : (m.nx.getD k []).length ≤ 12 := by have h7 : ((m.nx.getD k []).length : Int) ≤ 12 := hc17; omega
  refine ay ?_
  apply k14; clear k14; refine kp [1, 2, 3, 22, 23, 24, 32] ?_
  refine ak hP hN rfl ?_
  iterate 2 (refine aj rfl fun _ k0 => ?_; simp only [zO, zT, acs, reduceCtorEq, aa, V, ad, ag, af, ae, Mly.av, ah]; (repeat refine an ?_); (try refine .inl ?_); apply k0; clear k0; simp only [zP, V])
  refine am ?_
  refine ⟨_, _, ?_, ax [1, 2, 22, 23], k + 1, by omega, fun q h => ?_, rfl, rfl⟩
  · omega
  · by_cases e : q = k
    · rw [e]; exact hrow
    · exact hqn q (by omega)
 (try simp only [zB, reduceCtorEq] at hc13)
 refine aV ?_
 apply k8; clear k8; refine kp [1, 2, 22, 23, 24] ?_
 refine ai fun _ k19 => ?_
 refine ai fun _ k20 => ?_
 have hqN : ∀ q, q < m.nx.length → (m.nx.getD q []).length ≤ 12 := fun q h => hqn q (by omega)
 have hkn9 := hkn
 clear hqn
 refine ak hP hN rfl ?_
 iterate 4 (refine aj rfl fun _ k0 => ?_; simp only [zO, zT, acs, reduceCtorEq, aa, V, ad, ag, af, ae, Mly.av, ah]; (repeat refine an ?_); (try refine .inl ?_); apply k0; clear k0; simp only [zP, V])
 refine am ?_
 apply k20; clear k20; refine kp [1, 2, 22, 23, 24, 36, 37] ?_
 refine aB ?_
 refine aZ (fun n21 s21 => ∃ (k : Nat), (k ≤ m.ot.length) ∧ (∀ q, q < k → (m.ot.getD q []).length ≤ 12) ∧ n21 = m.ot.length - k ∧ s21 = { env := [(1, .one (.ptr 0 0 0 0)), (2, .one (.bool false)), (36, .one (.int .i64 (m.ot.length : Int))), (37, .one (.int .i64 (k : Int)))], L := [.vars 24 [.int .i64 m.inp, .int .i64 m.st, .list (.list (.int .i64)) m.nx, .list (.list (.int .i64)) m.ot]] }) ?_ ?_
 ·exact ⟨_, _, ax [1, 2, 36, 37], 0, Nat.zero_le _, fun q h => by omega, rfl, rfl⟩
 rintro n21 s21 ⟨k, hko, hqo, rfl, rfl⟩
 refine ai fun _ k22 => ?_
 refine ak hP hN rfl ?_
 (refine aj rfl fun _ k0 => ?_; simp only [zO, zT, acs, reduceCtorEq, aa, V, ad, ag, af, ae, Mly.av, ah]; (repeat refine an ?_); (try refine .inl ?_); apply k0; clear k0; simp only [zP, V])
 refine am ?_
 apply k22; clear k22; refine kp [1, 2, 36, 37, 38] ?_
 refine ai fun _ k23 => ?_
 refine cd (fun hc24 => ?_) (fun hc24 => ?_)
 ·(try simp only [zB, reduceCtorEq] at hc24)
  refine ay ?_
  apply k23; clear k23; refine kp [1, 2, 36, 37, 38] ?_
  refine ai fun _ k25 => ?_
  refine aB ?_
  refine ai fun _ k26 => ?_
  refine ak hP hN rfl ?_
  iterate 2 (refine aj rfl fun _ k0 => ?_; simp only [zO, zT, acs, reduceCtorEq, aa, V, ad, ag, af, ae, Mly.av, ah]; (repeat refine an ?_); (try refine .inl ?_); apply k0; clear k0; simp only [zP, V])
  refine am ?_
  apply k26; clear k26; refine kp [1, 2, 4, 36, 37, 38] ?_
  refine ai fun _ k27 => ?_
  refine ak hP hN rfl ?_
  iterate 7 (refine aj rfl fun _ k0 => ?_; simp only [zO, zT, acs, reduceCtorEq, aa, V, ad, ag, af, ae, Mly.av, ah]; (repeat refine an ?_); (try refine .inl ?_); apply k0; clear k0; simp only [zP, V])
  refine am ?_
  apply k27; clear k27; refine kp [1, 2, 4, 36, 37, 38, 46] ?_
  refine cd (fun hc28 => ?_) (fun hc28 => ?_)
  ·(try simp only [zB, reduceCtorEq] at hc28)
   have hg : iR m = true := zU (k := k) (by omega) (by have h7 : (12 : Int) < ((m.ot.getD k []).length : Int) := hc28; omega)
   refine ai fun _ k29 => ?_
   refine ak hP hN rfl ?_
   (refine aj rfl fun _ k0 => ?_; simp only [zO, zT, acs, reduceCtorEq, aa, V, ad, ag, af, ae, Mly.av, ah]; (repeat refine an ?_); (try refine .inl ?_); apply k0; clear k0; simp only [zP, V])
   refine am ?_
   apply k29; clear k29; refine kp [1, 2, 4, 36, 37, 38, 46] ?_
   refine aG ?_
   refine ⟨nr, _, rfl, ?_⟩; simp only [zF, zP, aa, V, Mly.av, ah]
   refine VLE.of_eq ?_
   refine congrArg (fun b => AV.one (AC.bool b)) ?_
   symm
   first
   | exact hg
   | exact o7 hg0 hqN (fun q h => hqo q (by omega))
  (try simp only [zB, reduceCtorEq] at hc28)
  have hrow : (m.ot.getD k []).length ≤ 12 := by have h7 : ((m.ot.getD k []).length : Int) ≤ 12 := hc28; omega
  refine ay ?_
  apply k25; clear k25; refine kp [1, 2, 4, 36, 37, 38, 46] ?_
  refine ak hP hN rfl ?_
  iterate 2 (refine aj rfl fun _ k0 => ?_; simp only [zO, zT, acs, reduceCtorEq, aa, V, ad, ag, af, ae, Mly.av, ah]; (repeat refine an ?_); (try refine .inl ?_); apply k0; clear k0; simp only [zP, V])
  refine am ?_
  refine ⟨_, _, ?_, ax [1, 2, 36, 37], k + 1, by omega, fun q h => ?_, rfl, rfl⟩
  · omega
  · by_cases e : q = k
    · rw [e]; exact hrow
    · exact hqo q (by omega)
 (try simp only [zB, reduceCtorEq] at hc24)
 refine aV ?_
 apply k19; clear k19; refine kp [1, 2, 36, 37, 38] ?_
 refine ai fun _ k30 => ?_
 refine ak hP hN rfl ?_
 (refine aj rfl fun _ k0 => ?_; simp only [zO, zT, acs, reduceCtorEq, aa, V, ad, ag, af, ae, Mly.av, ah]; (repeat refine an ?_); (try refine .inl ?_); apply k0; clear k0; simp only [zP, V])
 refine am ?_
 apply k30; clear k30; refine kp [1, 2, 36, 37, 38] ?_
 refine aG ?_
 refine ⟨nr, _, rfl, ?_⟩; simp only [zF, zP, aa, V, Mly.av, ah]
 refine VLE.of_eq ?_
 refine congrArg (fun b => AV.one (AC.bool b)) ?_
 symm
 first
 | exact hg
 | exact o7 hg0 hqN (fun q h => hqo q (by omega))
theorem vK (m : Mly) : bG Try.prog 9 [m.av] (.one (.bool (wm m))) := by
 refine aR Try.func9 rfl (by kernel_rfl) (Nat.le_of_ble_eq_true rfl) rfl fun C hP hN hB => ?_
 replace hN : C.N = 17 := hN
 simp only [bf, V]
 refine ai fun _ k1 => ?_
 refine ak hP hN rfl ?_
 iterate 2 (refine aj rfl fun _ k0 => ?_; simp only [zO, zT, acs, reduceCtorEq, aa, V, ad, ag, af, ae, Mly.av]; (repeat refine an ?_); (try refine .inl ?_); apply k0; clear k0; simp only [zP, V])
 refine am ?_
 apply k1; clear k1; refine kp [0, 1, 2] ?_
 refine ai fun _ k2 => ?_
 refine ak hP hN rfl ?_
 (refine aj rfl fun _ k0 => ?_; simp only [zO, zT, acs, reduceCtorEq, aa, V, ad, ag, af, ae, Mly.av]; (repeat refine an ?_); (try refine .inl ?_); apply k0; clear k0; simp only [zP, V])
 refine aj rfl fun _ k0 => ?_
 refine aK (h := aC (vJ m)) rfl rfl (by first | exact rfl | (simp only [ev, zP, aa, V]; exact rfl)) (by simp only [zV, acs, reduceCtorEq, aa, V, ad, ag, af, ae, Mly.av]) ?_
 apply k0; clear k0; simp only [zP, V]
 iterate 2 (refine aj rfl fun _ k0 => ?_; simp only [zO, zT, acs, reduceCtorEq, aa, V, ad, ag, af, ae, Mly.av]; (repeat refine an ?_); (try refine .inl ?_); apply k0; clear k0; simp only [zP, V])
 refine' aN (want := true) 4 rfl (m := 6) (by simp only [zP, aa, V]; exact rfl) (by kernel_rfl) rfl rfl rfl rfl rfl (fun hg3 => ?a3) ?b3 ?c3
 case a3 =>
  have hq3 := hg3; (try simp only [zB, reduceCtorEq] at hg3); simp only [zE]
  iterate 4 (refine aY rfl fun _ k0 => ?_; simp only [zO, zT, acs, reduceCtorEq, aa, V, ad, ag, af, ae, Mly.av]; (repeat refine an ?_); (try refine .inl ?_); apply k0; clear k0; simp only [zP, V])
  (refine aj rfl fun _ k0 => ?_; simp only [zO, zT, acs, reduceCtorEq, aa, V, ad, ag, af, ae, Mly.av]; (repeat refine an ?_); (try refine .inl ?_); apply k0; clear k0; simp only [zP, V])
  refine am ?_
  refine ⟨by simp only [zP, aa, V]; exact rfl, rfl, ?_, rfl⟩; (repeat refine aM rfl ?_); exact bm (by exact rfl) hq3
 case b3 => exact bZ
 simp only [b7, aU]
 (refine aj rfl fun _ k0 => ?_; simp only [zO, zT, acs, reduceCtorEq, aa, V, ad, ag, af, ae, Mly.av]; (repeat refine an ?_); (try refine .inl ?_); apply k0; clear k0; simp only [zP, V])
 refine' aN (want := true) 3 rfl (m := 12) (by simp only [zP, aa, V]; exact rfl) (by kernel_rfl) rfl rfl rfl rfl rfl (fun hg4 => ?a4) ?b4 ?c4
 case a4 =>
  have hq4 := hg4; (try simp only [zB, reduceCtorEq] at hg4); simp only [zE]
  iterate 3 (refine aY rfl fun _ k0 => ?_; simp only [zO, zT, acs, reduceCtorEq, aa, V, ad, ag, af, ae, Mly.av]; (repeat refine an ?_); (try refine .inl ?_); apply k0; clear k0; simp only [zP, V])
  (refine aj rfl fun _ k0 => ?_; simp only [zO, zT, acs, reduceCtorEq, aa, V, ad, ag, af, ae, Mly.av]; (repeat refine an ?_); (try refine .inl ?_); apply k0; clear k0; simp only [zP, V])
  refine am ?_
  refine ⟨by simp only [zP, aa, V]; exact rfl, rfl, ?_, rfl⟩; (repeat refine aM rfl ?_); exact bm (by exact rfl) hq4
 case b4 => exact bZ
 simp only [b7, aU]
 (refine aj rfl fun _ k0 => ?_; simp only [zO, zT, acs, reduceCtorEq, aa, V, ad, ag, af, ae, Mly.av]; (repeat refine an ?_); (try refine .inl ?_); apply k0; clear k0; simp only [zP, V])
 refine am ?_
 apply k2; clear k2; refine kp [0, 1, 2] ?_
 refine aG ?_
 refine ⟨nr, _, rfl, ?_⟩; simp only [zF, zP, aa, V, Mly.av]
 refine VLE.of_eq ?_
 refine congrArg (fun b => AV.one (AC.bool b)) ?_
 unfold wm
 rw [show decide ((m.nx.length : Int) ≤ 8) = decide (m.nx.length ≤ 8) by rw [decide_eq_decide]; omega]
set_option maxHeartbeats 1000000 in
theorem Au (m : Mly) (T : List aX) : bG Try.prog 4 [m.av, .agg [.list ndT T]] (.one (.bool true)) := by
 refine aR Try.func4 rfl (by kernel_rfl) (Nat.le_of_ble_eq_true rfl) rfl fun C hP hN hB => ?_
 replace hN : C.N = 43 := hN
 simp only [bf, V]
 refine ai fun _ k1 => ?_
 refine ak hP hN rfl ?_
 iterate 3 (refine aj rfl fun _ k0 => ?_; simp only [zO, zT, acs, reduceCtorEq, aa, V, ad, ag, af, ae, Mly.av]; (repeat refine an ?_); (try refine .inl ?_); apply k0; clear k0; simp only [zP, V])
 refine am ?_
 apply k1; clear k1; refine kp [0, 1, 2, 3, 4] ?_
 refine ai fun _ k2 => ?_
 refine ai fun _ k3 => ?_
 refine ak hP hN rfl ?_
 (refine aj rfl fun _ k0 => ?_; simp only [zO, zT, acs, reduceCtorEq, aa, V, ad, ag, af, ae, Mly.av]; (repeat refine an ?_); (try refine .inl ?_); apply k0; clear k0; simp only [zP, V])
 refine aj rfl fun _ k0 => ?_
 refine aK (h := aC (vK m)) rfl rfl (by first | exact rfl | (simp only [ev, zP, aa, V]; exact rfl)) (by simp only [zV, acs, reduceCtorEq, aa, V, ad, ag, af, ae, Mly.av]) ?_
 apply k0; clear k0; simp only [zP, V]
 iterate 2 (refine aj rfl fun _ k0 => ?_; simp only [zO, zT, acs, reduceCtorEq, aa, V, ad, ag, af, ae, Mly.av]; (repeat refine an ?_); (try refine .inl ?_); apply k0; clear k0; simp only [zP, V])
 refine' aN (want := false) 3 rfl (m := 8) (by simp only [zP, aa, V]; exact rfl) (by kernel_rfl) rfl rfl rfl rfl rfl (fun hg4 => ?a4) ?b4 ?c4
 case a4 =>
  have hq4 := hg4; (try simp only [zB, reduceCtorEq] at hg4); simp only [zE]
  (refine aY rfl fun _ k0 => ?_; simp only [zO, zT, acs, reduceCtorEq, aa, V, ad, ag, af, ae, Mly.av]; (repeat refine an ?_); (try refine .inl ?_); apply k0; clear k0; simp only [zP, V])
  refine aY rfl fun _ k0 => ?_
  refine aK (h := aC (Bj T)) rfl rfl (by first | exact rfl | (simp only [ev, zP, aa, V]; exact rfl)) (by simp only [zV, acs, reduceCtorEq, aa, V, ad, ag, af, ae, Mly.av]) ?_
  apply k0; clear k0; simp only [zP, V]
  (refine aY rfl fun _ k0 => ?_; simp only [zO, zT, acs, reduceCtorEq, aa, V, ad, ag, af, ae, Mly.av]; (repeat refine an ?_); (try refine .inl ?_); apply k0; clear k0; simp only [zP, V])
  (refine aj rfl fun _ k0 => ?_; simp only [zO, zT, acs, reduceCtorEq, aa, V, ad, ag, af, ae, Mly.av]; (repeat refine an ?_); (try refine .inl ?_); apply k0; clear k0; simp only [zP, V])
  refine am ?_
  refine ⟨by simp only [zP, aa, V]; exact rfl, rfl, ?_, rfl⟩; (repeat refine aM rfl ?_); exact bm (by exact rfl) hq4
 case b4 => exact bZ
 simp only [b7, aU]
 (refine aj rfl fun _ k0 => ?_; simp only [zO, zT, acs, reduceCtorEq, aa, V, ad, ag, af, ae, Mly.av]; (repeat refine an ?_); (try refine .inl ?_); apply k0; clear k0; simp only [zP, V])
 refine' aN (want := false) 3 rfl (m := 13) (by simp only [zP, aa, V]; exact rfl) (by kernel_rfl) rfl rfl rfl rfl rfl (fun hg5 => ?a5) ?b5 ?c5
 case a5 =>
  have hq5 := hg5; (try simp only [zB, reduceCtorEq] at hg5); simp only [zE]
  (refine aY rfl fun _ k0 => ?_; simp only [zO, zT, acs, reduceCtorEq, aa, V, ad, ag, af, ae, Mly.av]; (repeat refine an ?_); (try refine .inl ?_); apply k0; clear k0; simp only [zP, V])
  refine aY rfl fun _ k0 => ?_
  refine aK (h := aC (zJ T (vq (by assumption : wm m = true ∧ gQ T = true).2).1 (vq (by assumption : wm m = true ∧ gQ T = true).2).2)) rfl rfl (by first | exact rfl | (simp only [ev, zP, aa, V]; exact rfl)) (by simp only [zV, acs, reduceCtorEq, aa, V, ad, ag, af, ae, Mly.av]) ?_
  apply k0; clear k0; simp only [zP, V]
  (refine aY rfl fun _ k0 => ?_; simp only [zO, zT, acs, reduceCtorEq, aa, V, ad, ag, af, ae, Mly.av]; (repeat refine an ?_); (try refine .inl ?_); apply k0; clear k0; simp only [zP, V])
  (refine aj rfl fun _ k0 => ?_; simp only [zO, zT, acs, reduceCtorEq, aa, V, ad, ag, af, ae, Mly.av]; (repeat refine an ?_); (try refine .inl ?_); apply k0; clear k0; simp only [zP, V])
  refine am ?_
  refine ⟨by simp only [zP, aa, V]; exact rfl, rfl, ?_, rfl⟩; (repeat refine aM rfl ?_); exact bm (by exact rfl) hq5
 case b5 => exact bZ
 simp only [b7, aU]
 refine am ?_
 apply k3; clear k3; refine kp [0, 1, 2, 3, 4, 17] ?_
 refine cd (fun hc6 => ?_) (fun hc6 => ?_)
 ·(try simp only [zB, reduceCtorEq] at hc6)
  refine ai fun _ k7 => ?_
  refine ak hP hN rfl ?_
  refine aj rfl fun _ k0 => ?_
  refine aK (h := aC wz) rfl rfl (by first | exact rfl | (simp only [ev, zP, aa, V]; exact rfl)) (by simp only [zV, acs, reduceCtorEq, aa, V, ad, ag, af, ae, Mly.av]) ?_
  apply k0; clear k0; simp only [zP, V]
  (refine aj rfl fun _ k0 => ?_; simp only [zO, zT, acs, reduceCtorEq, aa, V, ad, ag, af, ae, Mly.av]; (repeat refine an ?_); (try refine .inl ?_); apply k0; clear k0; simp only [zP, V])
  refine am ?_
  apply k7; clear k7; refine kp [0, 1, 2, 3, 4, 17] ?_
  refine aG ?_
  refine ⟨nr, _, rfl, ?_⟩; simp only [zF, zP, aa, V, Mly.av]
  refine VLE.of_eq ?_
  first | rfl | (refine congrArg (fun b => AV.one (AC.bool b)) ?_; rw [show iz m T = eh m T by unfold iz eh; rw [tR]]; simp; done)
 (try simp only [zB, reduceCtorEq] at hc6)
 have hfw := vq hc6.1.2
 have hT6 := hfw.1
 have k6 : ∀ x ∈ T, x.2.2.1.length ≤ 1000000 := fun x hx => Nat.le_trans (hfw.2 x hx) (by decide)
 refine ay ?_
 apply k2; clear k2; refine kp [0, 1, 2, 3, 4, 17] ?_
 refine ai fun _ k8 => ?_
 refine bj hP hN Try.mixed rfl ?_
 iterate 2 (refine aj rfl fun _ k0 => ?_; simp only [zO, zT, acs, reduceCtorEq, aa, V, ad, ag, af, ae, Mly.av]; (repeat refine an ?_); (try refine .inl ?_); apply k0; clear k0; simp only [zP, V])
 refine aj rfl fun _ k0 => ?_
 refine aK (h := aC (oX m T)) rfl rfl (by first | exact rfl | (simp only [ev, zP, aa, V]; exact rfl)) (by simp only [zV, acs, reduceCtorEq, aa, V, ad, ag, af, ae, Mly.av]) ?_
 apply k0; clear k0; simp only [zP, V]
 iterate 2 (refine aj rfl fun _ k0 => ?_; simp only [zO, zT, acs, reduceCtorEq, aa, V, ad, ag, af, ae, Mly.av]; (repeat refine an ?_); (try refine .inl ?_); apply k0; clear k0; simp only [zP, V])
 refine aj rfl fun _ k0 => ?_
 refine aK (h := aC (zg m T)) rfl rfl (by first | exact rfl | (simp only [ev, zP, aa, V]; exact rfl)) (by simp only [zV, acs, reduceCtorEq, aa, V, ad, ag, af, ae, Mly.av]) ?_
 apply k0; clear k0; simp only [zP, V]
 iterate 2 (refine aj rfl fun _ k0 => ?_; simp only [zO, zT, acs, reduceCtorEq, aa, V, ad, ag, af, ae, Mly.av]; (repeat refine an ?_); (try refine .inl ?_); apply k0; clear k0; simp only [zP, V])
 refine' aN (want := true) 5 rfl (m := 26) (by simp only [zP, aa, V]; exact rfl) (by kernel_rfl) rfl rfl rfl rfl rfl (fun hg9 => ?a9) ?b9 ?c9
 case a9 =>
  have hq9 := hg9; (try simp only [zB, reduceCtorEq] at hg9); simp only [zE]
  (refine aY rfl fun _ k0 => ?_; simp only [zO, zT, acs, reduceCtorEq, aa, V, ad, ag, af, ae, Mly.av]; (repeat refine an ?_); (try refine .inl ?_); apply k0; clear k0; simp only [zP, V])
  refine aY rfl fun _ k0 => ?_
  refine aK (h := aC (sK T (by omega))) rfl rfl (by first | exact rfl | (simp only [ev, zP, aa, V]; exact rfl)) (by simp only [zV, acs, reduceCtorEq, aa, V, ad, ag, af, ae, Mly.av]) ?_
  apply k0; clear k0; simp only [zP, V]
  (refine aY rfl fun _ k0 => ?_; simp only [zO, zT, acs, reduceCtorEq, aa, V, ad, ag, af, ae, Mly.av]; (repeat refine an ?_); (try refine .inl ?_); apply k0; clear k0; simp only [zP, V])
  refine aY rfl fun _ k0 => ?_
  refine aK (h := aC (Az T (by omega))) rfl rfl (by first | exact rfl | (simp only [ev, zP, aa, V]; exact rfl)) (by simp only [zV, acs, reduceCtorEq, aa, V, ad, ag, af, ae, Mly.av]) ?_
  apply k0; clear k0; simp only [zP, V]
  (refine aY rfl fun _ k0 => ?_; simp only [zO, zT, acs, reduceCtorEq, aa, V, ad, ag, af, ae, Mly.av]; (repeat refine an ?_); (try refine .inl ?_); apply k0; clear k0; simp only [zP, V])
  (refine aj rfl fun _ k0 => ?_; simp only [zO, zT, acs, reduceCtorEq, aa, V, ad, ag, af, ae, Mly.av]; (repeat refine an ?_); (try refine .inl ?_); apply k0; clear k0; simp only [zP, V])
  refine am ?_
  refine ⟨by simp only [zP, aa, V]; exact rfl, rfl, ?_, rfl⟩; (repeat refine aM rfl ?_); exact bm (by exact rfl) hq9
 case b9 => exact bZ
 simp only [b7, aU]
 (refine aj rfl fun _ k0 => ?_; simp only [zO, zT, acs, reduceCtorEq, aa, V, ad, ag, af, ae, Mly.av]; (repeat refine an ?_); (try refine .inl ?_); apply k0; clear k0; simp only [zP, V])
 refine' aN (want := true) 5 rfl (m := 33) (by simp only [zP, aa, V]; exact rfl) (by kernel_rfl) rfl rfl rfl rfl rfl (fun hg10 => ?a10) ?b10 ?c10
 case a10 =>
  have hq10 := hg10; (try simp only [zB, reduceCtorEq] at hg10); simp only [zE]
  (refine aY rfl fun _ k0 => ?_; simp only [zO, zT, acs, reduceCtorEq, aa, V, ad, ag, af, ae, Mly.av]; (repeat refine an ?_); (try refine .inl ?_); apply k0; clear k0; simp only [zP, V])
  refine aY rfl fun _ k0 => ?_
  refine aK (h := aC (wP T (by omega) k6)) rfl rfl (by first | exact rfl | (simp only [ev, zP, aa, V]; exact rfl)) (by simp only [zV, acs, reduceCtorEq, aa, V, ad, ag, af, ae, Mly.av]) ?_
  apply k0; clear k0; simp only [zP, V]
  (refine aY rfl fun _ k0 => ?_; simp only [zO, zT, acs, reduceCtorEq, aa, V, ad, ag, af, ae, Mly.av]; (repeat refine an ?_); (try refine .inl ?_); apply k0; clear k0; simp only [zP, V])
  refine aY rfl fun _ k0 => ?_
  refine aK (h := aC (Al T (by omega) k6)) rfl rfl (by first | exact rfl | (simp only [ev, zP, aa, V]; exact rfl)) (by simp only [zV, acs, reduceCtorEq, aa, V, ad, ag, af, ae, Mly.av]) ?_
  apply k0; clear k0; simp only [zP, V]
  (refine aY rfl fun _ k0 => ?_; simp only [zO, zT, acs, reduceCtorEq, aa, V, ad, ag, af, ae, Mly.av]; (repeat refine an ?_); (try refine .inl ?_); apply k0; clear k0; simp only [zP, V])
  (refine aj rfl fun _ k0 => ?_; simp only [zO, zT, acs, reduceCtorEq, aa, V, ad, ag, af, ae, Mly.av]; (repeat refine an ?_); (try refine .inl ?_); apply k0; clear k0; simp only [zP, V])
  refine am ?_
  refine ⟨by simp only [zP, aa, V]; exact rfl, rfl, ?_, rfl⟩; (repeat refine aM rfl ?_); exact bm (by exact rfl) hq10
 case b10 => exact bZ
 simp only [b7, aU]
 (refine aj rfl fun _ k0 => ?_; simp only [zO, zT, acs, reduceCtorEq, aa, V, ad, ag, af, ae, Mly.av]; (repeat refine an ?_); (try refine .inl ?_); apply k0; clear k0; simp only [zP, V])
 refine' aN (want := true) 1 rfl (m := 40) (by simp only [zP, aa, V]; exact rfl) (by kernel_rfl) rfl rfl rfl rfl rfl (fun hg11 => ?a11) ?b11 ?c11
 case a11 =>
  have hq11 := hg11; (try simp only [zB, reduceCtorEq] at hg11); simp only [zE]
  refine aY rfl fun _ k0 => ?_
  refine aK (h := aC wz) rfl rfl (by first | exact rfl | (simp only [ev, zP, aa, V]; exact rfl)) (by simp only [zV, acs, reduceCtorEq, aa, V, ad, ag, af, ae, Mly.av]) ?_
  apply k0; clear k0; simp only [zP, V]
  (refine aj rfl fun _ k0 => ?_; simp only [zO, zT, acs, reduceCtorEq, aa, V, ad, ag, af, ae, Mly.av]; (repeat refine an ?_); (try refine .inl ?_); apply k0; clear k0; simp only [zP, V])
  refine am ?_
  refine ⟨by simp only [zP, aa, V]; exact rfl, rfl, ?_, rfl⟩; (repeat refine aM rfl ?_); exact bm (by exact rfl) hq11
 case b11 => exact bZ
 simp only [b7, aU]
 (refine aj rfl fun _ k0 => ?_; simp only [zO, zT, acs, reduceCtorEq, aa, V, ad, ag, af, ae, Mly.av]; (repeat refine an ?_); (try refine .inl ?_); apply k0; clear k0; simp only [zP, V])
 refine am ?_
 refine ⟨by kernel_rfl, ?_⟩
 apply k8; clear k8; refine kp [0, 1, 2, 3, 4, 17] ?_
 refine aG ?_
 refine ⟨nr, _, rfl, ?_⟩; simp only [zF, zP, aa, V, Mly.av]
 refine VLE.of_eq ?_
 first | rfl | (refine congrArg (fun b => AV.one (AC.bool b)) ?_; rw [show iz m T = eh m T by unfold iz eh; rw [tR]]; simp; done)
end Go.Proofs.Ytoahhklogohehaa
