/- Contracts of functions of this seat, each out of a walk through its code, and plain facts on what they compute. Conditions: those that each theorem names. -/
import Derived.Test.YtoahhklogohehaaW05
set_option linter.unusedSimpArgs false
set_option linter.unusedVariables false
set_option maxRecDepth 100000
namespace Go.Proofs.Ytoahhklogohehaa
open Go Go.AV
open Nat renaming reduceEqDiff → aa, reduceAdd → V, reduceLeDiff → ad, reduceLT → ag, reduceMul → af, reduceSub → ae
open List renaming set_cons_zero → cD, set_cons_succ → cm, getD_cons_zero → ar, length_append → aq, map_cons → aH, cons_append → aM, map_nil → bh, length_cons → au, nil_append → b6, take_succ_cons → dz, length_nil → aG, length_map → aD, length_replicate → bj, take_length → aI, mem_cons_self → aQ, mem_cons_of_mem → aJ
open Int renaming toNat_natCast → ah
set_option maxHeartbeats 4000000 in
theorem xc (f : Nat) (m : Mly) (hm : MOK m) (T : List b7) (hT : T.length ≤ 4096) (IH : ∀ (p : Nat) (ini cur : List Int), T.length + 1 ≤ f + p → p ≤ T.length → cK m cur → ini.length = cur.length → 0 < cur.length → cur.length ≤ 1000 → bP Try.prog 38 [m.av, .agg [.list ndT T], .one (.int .i64 (p : Int)), .one (.list (.int .i64) ini), .one (.list (.int .i64) cur)] (.one (.int .i64 (rtI (rtF m T f p ini cur))))) (p : Nat) (ini cur : List Int) (hf : T.length + 1 ≤ (f + 1) + p) (hp : p ≤ T.length) (hs : cK m cur) (hil : ini.length = cur.length) (h0 : 0 < cur.length) (hl : cur.length ≤ 1000) : bP Try.prog 38 [m.av, .agg [.list ndT T], .one (.int .i64 (p : Int)), .one (.list (.int .i64) ini), .one (.list (.int .i64) cur)] (.one (.int .i64 (rtI (rtF m T (f + 1) p ini cur)))) := by
 refine aS Try.func38 rfl (by kernel_rfl) (Nat.le_of_ble_eq_true rfl) rfl fun C hP hN hB => ?_
 replace hN : C.N = 146 := hN
 simp only [bf, V]
 refine ai fun _ k1 => ?_
 refine ak hP hN rfl ?_
 iterate 3 (refine aj rfl fun _ k0 => ?_; simp only [zO, zT, acs, reduceCtorEq, aa, V, ad, ag, af, ae, Mly.av, ah, aw, aB, az]; (repeat refine an ?_); (try refine .inl ?_); apply k0; clear k0; simp only [zP, V])
 refine am ?_
 apply k1; clear k1; refine kp [0, 1, 2, 3, 4, 5, 6, 10] ?_
 refine ai fun _ k2 => ?_
 refine ai fun _ k3 => ?_
 refine ak hP hN rfl ?_
 iterate 6 (refine aj rfl fun _ k0 => ?_; simp only [zO, zT, acs, reduceCtorEq, aa, V, ad, ag, af, ae, Mly.av, ah, aw, aB, az]; (repeat refine an ?_); (try refine .inl ?_); apply k0; clear k0; simp only [zP, V])
 refine' aO (want := false) 9 rfl (m := 23) (by simp only [zP, aa, V]; exact rfl) (by kernel_rfl) rfl rfl rfl rfl rfl (fun hg4 => ?a4) ?b4 ?c4
 case a4 =>
  have hq4 := hg4; (try simp only [zB, reduceCtorEq] at hg4); simp only [zE]
  iterate 7 (refine bg rfl fun _ k0 => ?_; simp only [zO, zT, acs, reduceCtorEq, aa, V, ad, ag, af, ae, Mly.av, ah, aw, aB, az]; (repeat refine an ?_); (try refine .inl ?_); apply k0; clear k0; simp only [zP, V])
  refine bg rfl fun _ k0 => ?_
  refine aK (h := aE (sS (T.getD p nd0).1 ini)) rfl rfl (by first | exact rfl | (simp only [ev, zP, aa, V]; exact rfl)) (by simp only [zV, acs, reduceCtorEq, aa, V, ad, ag, af, ae, Mly.av, ah, aw, aB, az]) ?_
  apply k0; clear k0; simp only [zP, V]
  (refine bg rfl fun _ k0 => ?_; simp only [zO, zT, acs, reduceCtorEq, aa, V, ad, ag, af, ae, Mly.av, ah, aw, aB, az]; (repeat refine an ?_); (try refine .inl ?_); apply k0; clear k0; simp only [zP, V])
  (refine aj rfl fun _ k0 => ?_; simp only [zO, zT, acs, reduceCtorEq, aa, V, ad, ag, af, ae, Mly.av, ah, aw, aB, az]; (repeat refine an ?_); (try refine .inl ?_); apply k0; clear k0; simp only [zP, V])
  refine am ?_
  refine ⟨by simp only [zP, aa, V]; exact rfl, rfl, ?_, rfl⟩; (repeat refine aP rfl ?_); exact bo (by exact rfl) hq4
 case b4 => exact cr
 simp only [bb, aT]
 refine am ?_
 apply k3; clear k3; refine kp [0, 1, 2, 3, 4, 5, 6, 10, 33] ?_
 refine cd (fun hc5 => ?_) (fun hc5 => ?_)
 ·(try simp only [zB, reduceCtorEq] at hc5)
  have hNN : rtF m T (f + 1) p ini cur = none := kr (m := m) (f := f) (fun h => Or.elim hc5 (fun h9 => by omega) (fun h9 => h9 h.2.1))
  refine ai fun _ k6 => ?_
  refine ak hP hN rfl ?_
  (refine aj rfl fun _ k0 => ?_; simp only [zO, zT, acs, reduceCtorEq, aa, V, ad, ag, af, ae, Mly.av, ah, aw, aB, az]; (repeat refine an ?_); (try refine .inl ?_); apply k0; clear k0; simp only [zP, V])
  refine am ?_
  apply k6; clear k6; refine kp [0, 1, 2, 3, 4, 5, 6, 10, 33] ?_
  refine aF ?_
  refine ⟨nr, _, rfl, ?_⟩; simp only [zF, zP, aa, V, Mly.av, ah, aw, aB, az]
  refine VLE.of_eq ?_
  refine congrArg (fun n => AV.one (AC.int IntKind.i64 n)) ?_
  first
  | (rw [hNN]; done)
  | (rw [hNN]; rfl)
  | (rw [hSS]; done)
  | (rw [hSS]; rfl)
 (try simp only [zB, reduceCtorEq] at hc5)
 have hy1 : p < T.length ∧ (T.getD p nd0).1 = ini := ⟨by omega, hc5.2⟩
 refine ay ?_
 apply k2; clear k2; refine kp [0, 1, 2, 3, 4, 5, 6, 10, 33] ?_
 refine ai fun _ k7 => ?_
 refine ai fun _ k8 => ?_
 refine ak hP hN rfl ?_
 (refine aj rfl fun _ k0 => ?_; simp only [zO, zT, acs, reduceCtorEq, aa, V, ad, ag, af, ae, Mly.av, ah, aw, aB, az]; (repeat refine an ?_); (try refine .inl ?_); apply k0; clear k0; simp only [zP, V])
 refine am ?_
 apply k8; clear k8; refine kp [0, 1, 2, 3, 4, 5, 6, 10, 11, 33] ?_
 refine aA ?_
 refine aY (fun n9 s9 => ∃ (k : Nat), (k ≤ cur.length) ∧ (∀ k2 j2, k2 < k → j2 < k2 → cur.getD k2 0 ≠ cur.getD j2 0) ∧ n9 = cur.length - k ∧ s9 = { env := [(2, .one (.int .i64 (p : Int))), (3, .one (.list (.int .i64) ini)), (4, .one (.list (.int .i64) cur)), (5, .one (.ptr 0 0 0 0)), (6, .one (.ptr 1 0 0 0)), (10, .one (.int .i64 0)), (11, .one (.int .i64 (k : Int)))], L := [.vars 24 [.int .i64 m.inp, .int .i64 m.st, .list (.list (.int .i64)) m.nx, .list (.list (.int .i64)) m.ot], .vars 29 [.list ndT T]] }) ?_ ?_
 ·exact ⟨_, _, ax [2, 3, 4, 5, 6, 10, 11], 0, Nat.zero_le _, fun k2 j2 h1 h2 => by omega, rfl, rfl⟩
 rintro n9 s9 ⟨k, hk, hu, rfl, rfl⟩
 refine ai fun _ k10 => ?_
 refine ai fun _ k11 => ?_
 refine ak hP hN rfl ?_
 iterate 4 (refine aj rfl fun _ k0 => ?_; simp only [zO, zT, acs, reduceCtorEq, aa, V, ad, ag, af, ae, Mly.av, ah, aw, aB, az]; (repeat refine an ?_); (try refine .inl ?_); apply k0; clear k0; simp only [zP, V])
 refine am ?_
 apply k11; clear k11; refine kp [2, 3, 4, 5, 6, 10, 11, 37] ?_
 refine cd (fun hc12 => ?_) (fun hc12 => ?_)
 ·(try simp only [zB, reduceCtorEq] at hc12)
  refine ay ?_
  apply k10; clear k10; refine kp [2, 3, 4, 5, 6, 10, 11, 37] ?_
  refine ai fun _ k13 => ?_
  refine aA ?_
  refine ai fun _ k14 => ?_
  refine ak hP hN rfl ?_
  (refine aj rfl fun _ k0 => ?_; simp only [zO, zT, acs, reduceCtorEq, aa, V, ad, ag, af, ae, Mly.av, ah, aw, aB, az]; (repeat refine an ?_); (try refine .inl ?_); apply k0; clear k0; simp only [zP, V])
  refine am ?_
  apply k14; clear k14; refine kp [2, 3, 4, 5, 6, 10, 11, 12, 37] ?_
  refine aA ?_
  refine aY (fun n15 s15 => ∃ (j : Nat), (j ≤ k) ∧ (∀ j2, j2 < j → cur.getD k 0 ≠ cur.getD j2 0) ∧ n15 = k - j ∧ s15 = { env := [(2, .one (.int .i64 (p : Int))), (3, .one (.list (.int .i64) ini)), (4, .one (.list (.int .i64) cur)), (5, .one (.ptr 0 0 0 0)), (6, .one (.ptr 1 0 0 0)), (10, .one (.int .i64 0)), (11, .one (.int .i64 (k : Int))), (12, .one (.int .i64 (j : Int))), (37, .one (.bool true))], L := [.vars 24 [.int .i64 m.inp, .int .i64 m.st, .list (.list (.int .i64)) m.nx, .list (.list (.int .i64)) m.ot], .vars 29 [.list ndT T]] }) ?_ ?_
  ·refine ⟨_, _, ax [2, 3, 4, 5, 6, 10, 11, 12, 37], 0, Nat.zero_le _, fun j2 h => by omega, rfl, ?_⟩
   rw [decide_eq_true (by omega)]; rfl
  rintro n15 s15 ⟨j, hj, hq, rfl, rfl⟩
  refine ai fun _ k16 => ?_
  refine ai fun _ k17 => ?_
  refine ak hP hN rfl ?_
  iterate 3 (refine aj rfl fun _ k0 => ?_; simp only [zO, zT, acs, reduceCtorEq, aa, V, ad, ag, af, ae, Mly.av, ah, aw, aB, az]; (repeat refine an ?_); (try refine .inl ?_); apply k0; clear k0; simp only [zP, V])
  refine am ?_
  apply k17; clear k17; refine kp [2, 3, 4, 5, 6, 10, 11, 12, 37, 42] ?_
  refine cd (fun hc18 => ?_) (fun hc18 => ?_)
  ·(try simp only [zB, reduceCtorEq] at hc18)
   refine ay ?_
   apply k16; clear k16; refine kp [2, 3, 4, 5, 6, 10, 11, 12, 37, 42] ?_
   refine ai fun _ k19 => ?_
   refine aA ?_
   refine ai fun _ k20 => ?_
   refine bn hP hN Try.mixed rfl ?_
   iterate 9 (refine aj rfl fun _ k0 => ?_; simp only [zO, zT, acs, reduceCtorEq, aa, V, ad, ag, af, ae, Mly.av, ah, aw, aB, az]; (repeat refine an ?_); (try refine .inl ?_); apply k0; clear k0; simp only [zP, V])
   refine am ?_
   refine ⟨by kernel_rfl, ?_⟩
   apply k20; clear k20; refine kp [2, 3, 4, 5, 6, 10, 11, 12, 37, 42, 53] ?_
   refine cd (fun hc21 => ?_) (fun hc21 => ?_)
   ·(try simp only [zB, reduceCtorEq] at hc21)
    have hq9 : cur.getD k 0 = cur.getD j 0 := hc21
    have hNN : rtF m T (f + 1) p ini cur = none := kr (m := m) (f := f) (fun h => me.1 h.2.2 k j (by omega) (by omega) hq9)
    refine ai fun _ k22 => ?_
    refine ak hP hN rfl ?_
    (refine aj rfl fun _ k0 => ?_; simp only [zO, zT, acs, reduceCtorEq, aa, V, ad, ag, af, ae, Mly.av, ah, aw, aB, az]; (repeat refine an ?_); (try refine .inl ?_); apply k0; clear k0; simp only [zP, V])
    refine am ?_
    apply k22; clear k22; refine kp [2, 3, 4, 5, 6, 10, 11, 12, 37, 42, 53] ?_
    refine aF ?_
    refine ⟨nr, _, rfl, ?_⟩; simp only [zF, zP, aa, V, Mly.av, ah, aw, aB, az]
    refine VLE.of_eq ?_
    refine congrArg (fun n => AV.one (AC.int IntKind.i64 n)) ?_
    first
    | (rw [hNN]; done)
    | (rw [hNN]; rfl)
    | (rw [hSS]; done)
    | (rw [hSS]; rfl)
   (try simp only [zB, reduceCtorEq] at hc21)
   have hq9 : ¬ cur.getD k 0 = cur.getD j 0 := hc21
   refine ay ?_
   apply k19; clear k19; refine kp [2, 3, 4, 5, 6, 10, 11, 12, 37, 42, 53] ?_
   refine ak hP hN rfl ?_
   iterate 3 (refine aj rfl fun _ k0 => ?_; simp only [zO, zT, acs, reduceCtorEq, aa, V, ad, ag, af, ae, Mly.av, ah, aw, aB, az]; (repeat refine an ?_); (try refine .inl ?_); apply k0; clear k0; simp only [zP, V])
   refine am ?_
   refine ⟨_, _, ?_, ax [2, 3, 4, 5, 6, 10, 11, 12, 37], j + 1, by omega, fun j2 h2 => ?_, rfl, rfl⟩
   · omega
   · by_cases e : j2 = j
     · rw [e]; exact hq9
     · exact hq j2 (by omega)
  (try simp only [zB, reduceCtorEq] at hc18)
  refine aV ?_
  apply k13; clear k13; refine kp [2, 3, 4, 5, 6, 10, 11, 12, 37, 42] ?_
  refine ak hP hN rfl ?_
  iterate 3 (refine aj rfl fun _ k0 => ?_; simp only [zO, zT, acs, reduceCtorEq, aa, V, ad, ag, af, ae, Mly.av, ah, aw, aB, az]; (repeat refine an ?_); (try refine .inl ?_); apply k0; clear k0; simp only [zP, V])
  refine am ?_
  refine ⟨_, _, ?_, ax [2, 3, 4, 5, 6, 10, 11], k + 1, by omega, fun k2 j2 h1 h2 => ?_, rfl, rfl⟩
  · omega
  · by_cases e : k2 = k
    · rw [e]; exact hq j2 (by omega)
    · exact hu k2 j2 (by omega) h2
 (try simp only [zB, reduceCtorEq] at hc12)
 have hnd : cur.Nodup := me.2 fun k2 j2 h1 h2 => hu k2 j2 (by omega) h2
 have hyes : p < T.length ∧ (T.getD p nd0).1 = ini ∧ cur.Nodup := ⟨hy1.1, hy1.2, hnd⟩
 refine aV ?_
 apply k7; clear k7; refine kp [2, 3, 4, 5, 6, 10, 11, 37] ?_
 refine ai fun _ k23 => ?_
 refine ak hP hN rfl ?_
 iterate 7 (refine aj rfl fun _ k0 => ?_; simp only [zO, zT, acs, reduceCtorEq, aa, V, ad, ag, af, ae, Mly.av, ah, aw, aB, az]; (repeat refine an ?_); (try refine .inl ?_); apply k0; clear k0; simp only [zP, V])
 refine am ?_
 apply k23; clear k23; refine kp [2, 3, 4, 5, 6, 10, 11, 13, 37] ?_
 refine ai fun _ k24 => ?_
 refine ai fun _ k25 => ?_
 refine ak hP hN rfl ?_
 iterate 4 (refine aj rfl fun _ k0 => ?_; simp only [zO, zT, acs, reduceCtorEq, aa, V, ad, ag, af, ae, Mly.av, ah, aw, aB, az]; (repeat refine an ?_); (try refine .inl ?_); apply k0; clear k0; simp only [zP, V])
 refine' aO (want := true) 4 rfl (m := 62) (by simp only [zP, aa, V]; exact rfl) (by kernel_rfl) rfl rfl rfl rfl rfl (fun hg26 => ?a26) ?b26 ?c26
 case a26 =>
  have hq26 := hg26; (try simp only [zB, reduceCtorEq] at hg26); simp only [zE]
  iterate 4 (refine bg rfl fun _ k0 => ?_; simp only [zO, zT, acs, reduceCtorEq, aa, V, ad, ag, af, ae, Mly.av, ah, aw, aB, az]; (repeat refine an ?_); (try refine .inl ?_); apply k0; clear k0; simp only [zP, V])
  (refine aj rfl fun _ k0 => ?_; simp only [zO, zT, acs, reduceCtorEq, aa, V, ad, ag, af, ae, Mly.av, ah, aw, aB, az]; (repeat refine an ?_); (try refine .inl ?_); apply k0; clear k0; simp only [zP, V])
  refine am ?_
  refine ⟨by simp only [zP, aa, V]; exact rfl, rfl, ?_, rfl⟩; (repeat refine aP rfl ?_); exact bo (by exact rfl) hq26
 case b26 => exact cr
 simp only [bb, aT]
 refine am ?_
 apply k25; clear k25; refine kp [2, 3, 4, 5, 6, 10, 11, 13, 37, 67] ?_
 refine cd (fun hc27 => ?_) (fun hc27 => ?_)
 ·(try simp only [zB, reduceCtorEq] at hc27)
  have h8 : (T.getD p nd0).2.1 = -1 ∧ ((T.getD p nd0).2.2.1.length : Int) = 0 := hc27
  have hSS := (d4 (m := m) (f := f) hyes h8.1).trans (if_pos (by omega))
  refine ai fun _ k28 => ?_
  refine ak hP hN rfl ?_
  iterate 3 (refine aj rfl fun _ k0 => ?_; simp only [zO, zT, acs, reduceCtorEq, aa, V, ad, ag, af, ae, Mly.av, ah, aw, aB, az]; (repeat refine an ?_); (try refine .inl ?_); apply k0; clear k0; simp only [zP, V])
  refine am ?_
  apply k28; clear k28; refine kp [2, 3, 4, 5, 6, 10, 11, 13, 37, 67] ?_
  refine aF ?_
  refine ⟨nr, _, rfl, ?_⟩; simp only [zF, zP, aa, V, Mly.av, ah, aw, aB, az]
  refine VLE.of_eq ?_
  refine congrArg (fun n => AV.one (AC.int IntKind.i64 n)) ?_
  first
  | (rw [hNN]; done)
  | (rw [hNN]; rfl)
  | (rw [hSS]; done)
  | (rw [hSS]; rfl)
 (try simp only [zB, reduceCtorEq] at hc27)
 have h8 : ¬ (T.getD p nd0).2.1 = -1 ∨ ¬ ((T.getD p nd0).2.2.1.length : Int) = 0 := hc27
 refine ay ?_
 apply k24; clear k24; refine kp [2, 3, 4, 5, 6, 10, 11, 13, 37, 67] ?_
 refine ai fun _ k29 => ?_
 refine ai fun _ k30 => ?_
 refine ak hP hN rfl ?_
 iterate 4 (refine aj rfl fun _ k0 => ?_; simp only [zO, zT, acs, reduceCtorEq, aa, V, ad, ag, af, ae, Mly.av, ah, aw, aB, az]; (repeat refine an ?_); (try refine .inl ?_); apply k0; clear k0; simp only [zP, V])
 refine' aO (want := false) 5 rfl (m := 73) (by simp only [zP, aa, V]; exact rfl) (by kernel_rfl) rfl rfl rfl rfl rfl (fun hg31 => ?a31) ?b31 ?c31
 case a31 =>
  have hq31 := hg31; (try simp only [zB, reduceCtorEq] at hg31); simp only [zE]
  iterate 5 (refine bg rfl fun _ k0 => ?_; simp only [zO, zT, acs, reduceCtorEq, aa, V, ad, ag, af, ae, Mly.av, ah, aw, aB, az]; (repeat refine an ?_); (try refine .inl ?_); apply k0; clear k0; simp only [zP, V])
  (refine aj rfl fun _ k0 => ?_; simp only [zO, zT, acs, reduceCtorEq, aa, V, ad, ag, af, ae, Mly.av, ah, aw, aB, az]; (repeat refine an ?_); (try refine .inl ?_); apply k0; clear k0; simp only [zP, V])
  refine am ?_
  refine ⟨by simp only [zP, aa, V]; exact rfl, rfl, ?_, rfl⟩; (repeat refine aP rfl ?_); exact bo (by exact rfl) hq31
 case b31 => exact cr
 simp only [bb, aT]
 refine am ?_
 apply k30; clear k30; refine kp [2, 3, 4, 5, 6, 10, 11, 13, 37, 67, 79] ?_
 refine cd (fun hc32 => ?_) (fun hc32 => ?_)
 ·(try simp only [zB, reduceCtorEq] at hc32)
  have h7 : (T.getD p nd0).2.1 < 0 ∨ m.inp ≤ (T.getD p nd0).2.1 := hc32
  have hNN : rtF m T (f + 1) p ini cur = none := by
    by_cases e1 : (T.getD p nd0).2.1 = -1
    · exact (d4 (m := m) (f := f) hyes e1).trans (if_neg (by rcases h8 with h9 | h9 <;> omega))
    · exact jG e1 (by omega)
  refine ai fun _ k33 => ?_
  refine ak hP hN rfl ?_
  (refine aj rfl fun _ k0 => ?_; simp only [zO, zT, acs, reduceCtorEq, aa, V, ad, ag, af, ae, Mly.av, ah, aw, aB, az]; (repeat refine an ?_); (try refine .inl ?_); apply k0; clear k0; simp only [zP, V])
  refine am ?_
  apply k33; clear k33; refine kp [2, 3, 4, 5, 6, 10, 11, 13, 37, 67, 79] ?_
  refine aF ?_
  refine ⟨nr, _, rfl, ?_⟩; simp only [zF, zP, aa, V, Mly.av, ah, aw, aB, az]
  refine VLE.of_eq ?_
  refine congrArg (fun n => AV.one (AC.int IntKind.i64 n)) ?_
  first
  | (rw [hNN]; done)
  | (rw [hNN]; rfl)
  | (rw [hSS]; done)
  | (rw [hSS]; rfl)
 (try simp only [zB, reduceCtorEq] at hc32)
 have hxa : 0 ≤ (T.getD p nd0).2.1 ∧ (T.getD p nd0).2.1 < m.inp := hc32
 have hx1 : ¬ (T.getD p nd0).2.1 = -1 := by omega
 have hkl := fP (ouL m cur (T.getD p nd0).2.1)
 have hol : (ouL m cur (T.getD p nd0).2.1).length = cur.length := aD ..
 refine ay ?_
 apply k29; clear k29; refine kp [2, 3, 4, 5, 6, 10, 11, 13, 37, 67, 79] ?_
 refine ai fun _ k34 => ?_
 refine ak hP hN rfl ?_
 iterate 4 (refine aj rfl fun _ k0 => ?_; simp only [zO, zT, acs, reduceCtorEq, aa, V, ad, ag, af, ae, Mly.av, ah, aw, aB, az]; (repeat refine an ?_); (try refine .inl ?_); apply k0; clear k0; simp only [zP, V])
 refine aj rfl fun _ k0 => ?_
 refine aK (h := aE (vK m cur (T.getD p nd0).2.1 hm hs hxa hl)) rfl rfl (by first | exact rfl | (simp only [ev, zP, aa, V]; exact rfl)) (by simp only [zV, acs, reduceCtorEq, aa, V, ad, ag, af, ae, Mly.av, ah, aw, aB, az]) ?_
 apply k0; clear k0; simp only [zP, V]
 (refine aj rfl fun _ k0 => ?_; simp only [zO, zT, acs, reduceCtorEq, aa, V, ad, ag, af, ae, Mly.av, ah, aw, aB, az]; (repeat refine an ?_); (try refine .inl ?_); apply k0; clear k0; simp only [zP, V])
 refine am ?_
 apply k34; clear k34; refine kp [2, 3, 4, 5, 6, 10, 11, 13, 14, 37, 67, 79] ?_
 refine ai fun _ k35 => ?_
 refine ai fun _ k36 => ?_
 refine ak hP hN rfl ?_
 iterate 6 (refine aj rfl fun _ k0 => ?_; simp only [zO, zT, acs, reduceCtorEq, aa, V, ad, ag, af, ae, Mly.av, ah, aw, aB, az]; (repeat refine an ?_); (try refine .inl ?_); apply k0; clear k0; simp only [zP, V])
 refine am ?_
 apply k36; clear k36; refine kp [2, 3, 4, 5, 6, 10, 11, 13, 14, 37, 67, 79, 90] ?_
 refine cd (fun hc37 => ?_) (fun hc37 => ?_)
 ·(try simp only [zB, reduceCtorEq] at hc37)
  have h8 : ¬ (((aC (ouL m cur (T.getD p nd0).2.1)).length : Int) = ((T.getD p nd0).2.2.1.length : Int)) := hc37
  have hNN : rtF m T (f + 1) p ini cur = none := jG hx1 (by omega)
  refine ai fun _ k38 => ?_
  refine ak hP hN rfl ?_
  (refine aj rfl fun _ k0 => ?_; simp only [zO, zT, acs, reduceCtorEq, aa, V, ad, ag, af, ae, Mly.av, ah, aw, aB, az]; (repeat refine an ?_); (try refine .inl ?_); apply k0; clear k0; simp only [zP, V])
  refine am ?_
  apply k38; clear k38; refine kp [2, 3, 4, 5, 6, 10, 11, 13, 14, 37, 67, 79, 90] ?_
  refine aF ?_
  refine ⟨nr, _, rfl, ?_⟩; simp only [zF, zP, aa, V, Mly.av, ah, aw, aB, az]
  refine VLE.of_eq ?_
  refine congrArg (fun n => AV.one (AC.int IntKind.i64 n)) ?_
  first
  | (rw [hNN]; done)
  | (rw [hNN]; rfl)
  | (rw [hSS]; done)
  | (rw [hSS]; rfl)
 (try simp only [zB, reduceCtorEq] at hc37)
 have hxl : (aC (ouL m cur (T.getD p nd0).2.1)).length = (T.getD p nd0).2.2.1.length := by
   have h8 : ((aC (ouL m cur (T.getD p nd0).2.1)).length : Int) = ((T.getD p nd0).2.2.1.length : Int) := hc37
   omega
 have hrf := kq (f := f) hyes hx1 ⟨hxa.1, hxa.2, hxl⟩
 refine ay ?_
 apply k35; clear k35; refine kp [2, 3, 4, 5, 6, 10, 11, 13, 14, 37, 67, 79, 90] ?_
 refine ai fun _ k39 => ?_
 refine ak hP hN rfl ?_
 iterate 3 (refine aj rfl fun _ k0 => ?_; simp only [zO, zT, acs, reduceCtorEq, aa, V, ad, ag, af, ae, Mly.av, ah, aw, aB, az]; (repeat refine an ?_); (try refine .inl ?_); apply k0; clear k0; simp only [zP, V])
 refine am ?_
 apply k39; clear k39; refine kp [2, 3, 4, 5, 6, 10, 11, 13, 14, 15, 37, 67, 79, 90] ?_
 refine ai fun _ k40 => ?_
 refine ai fun _ k41 => ?_
 refine ak hP hN rfl ?_
 (refine aj rfl fun _ k0 => ?_; simp only [zO, zT, acs, reduceCtorEq, aa, V, ad, ag, af, ae, Mly.av, ah, aw, aB, az]; (repeat refine an ?_); (try refine .inl ?_); apply k0; clear k0; simp only [zP, V])
 refine am ?_
 apply k41; clear k41; refine kp [2, 3, 4, 5, 6, 10, 11, 13, 14, 15, 16, 37, 67, 79, 90] ?_
 refine aA ?_
 refine aY (fun n42 s42 => ∃ (i e : Nat), (i ≤ (aC (ouL m cur (T.getD p nd0).2.1)).length) ∧ ((List.range i).foldl (fh m (rtF m T f) ini cur (T.getD p nd0)) (some (p + 1)) = some e) ∧ (p + 1 ≤ e ∧ e ≤ T.length) ∧ n42 = (aC (ouL m cur (T.getD p nd0).2.1)).length - i ∧ s42 = { env := [(3, .one (.list (.int .i64) ini)), (4, .one (.list (.int .i64) cur)), (5, .one (.ptr 0 0 0 0)), (6, .one (.ptr 1 0 0 0)), (10, .one (.int .i64 0)), (13, .one (.ptr 2 0 0 0)), (14, .one (.list (.int .i64) (aC (ouL m cur (T.getD p nd0).2.1)))), (15, .one (.int .i64 (e : Int))), (16, .one (.int .i64 (i : Int)))], L := [.vars 24 [.int .i64 m.inp, .int .i64 m.st, .list (.list (.int .i64)) m.nx, .list (.list (.int .i64)) m.ot], .vars 29 [.list ndT T], .vars 52 [.list (.int .i64) (T.getD p nd0).1, .int .i64 (T.getD p nd0).2.1, .list kdT (T.getD p nd0).2.2.1]] }) ?_ ?_
 ·exact ⟨_, _, ax [3, 4, 5, 6, 10, 13, 14, 15, 16], 0, p + 1, Nat.zero_le _, rfl, ⟨by omega, by omega⟩, rfl, rfl⟩
 rintro n42 s42 ⟨i, e, hi, hD, he, rfl, rfl⟩
 refine ai fun _ k43 => ?_
 refine ai fun _ k44 => ?_
 refine ak hP hN rfl ?_
 iterate 4 (refine aj rfl fun _ k0 => ?_; simp only [zO, zT, acs, reduceCtorEq, aa, V, ad, ag, af, ae, Mly.av, ah, aw, aB, az]; (repeat refine an ?_); (try refine .inl ?_); apply k0; clear k0; simp only [zP, V])
 refine am ?_
 apply k44; clear k44; refine kp [3, 4, 5, 6, 10, 13, 14, 15, 16, 96] ?_
 refine cd (fun hc45 => ?_) (fun hc45 => ?_)
 ·(try simp only [zB, reduceCtorEq] at hc45)
  refine ay ?_
  apply k43; clear k43; refine kp [3, 4, 5, 6, 10, 13, 14, 15, 16, 96] ?_
  refine ai fun _ k46 => ?_
  refine aA ?_
  refine ai fun _ k47 => ?_
  refine ai fun _ k48 => ?_
  have hil9 : (i : Int) < ((T.getD p nd0).2.2.1.length : Int) := by omega
  have hil8 : i < (T.getD p nd0).2.2.1.length := by omega
  refine bn hP hN Try.mixed rfl ?_
  iterate 12 (refine aj rfl fun _ k0 => ?_; simp only [zO, zT, acs, reduceCtorEq, aa, V, ad, ag, af, ae, Mly.av, ah, aw, aB, az]; (repeat refine an ?_); (try refine .inl ?_); apply k0; clear k0; simp only [zP, V])
  refine' aO (want := false) 8 rfl (m := 110) (by simp only [zP, aa, V]; exact rfl) (by kernel_rfl) rfl rfl rfl rfl rfl (fun hg49 => ?a49) ?b49 ?c49
  case a49 =>
   have hq49 := hg49; (try simp only [zB, reduceCtorEq] at hg49); simp only [zE]
   iterate 8 (refine bg rfl fun _ k0 => ?_; simp only [zO, zT, acs, reduceCtorEq, aa, V, ad, ag, af, ae, Mly.av, ah, aw, aB, az]; (repeat refine an ?_); (try refine .inl ?_); apply k0; clear k0; simp only [zP, V])
   (refine aj rfl fun _ k0 => ?_; simp only [zO, zT, acs, reduceCtorEq, aa, V, ad, ag, af, ae, Mly.av, ah, aw, aB, az]; (repeat refine an ?_); (try refine .inl ?_); apply k0; clear k0; simp only [zP, V])
   refine am ?_
   refine ⟨by simp only [zP, aa, V]; exact rfl, rfl, ?_, rfl⟩; (repeat refine aP rfl ?_); exact bo (by exact rfl) hq49
  case b49 => exact cr
  simp only [bb, aT]
  refine am ?_
  refine ⟨by kernel_rfl, ?_⟩
  apply k48; clear k48; refine kp [3, 4, 5, 6, 10, 13, 14, 15, 16, 96, 119] ?_
  refine cd (fun hc50 => ?_) (fun hc50 => ?_)
  ·(try simp only [zB, reduceCtorEq] at hc50)
   have hNN : rtF m T (f + 1) p ini cur = none := hrf.trans (jU (by omega) hD (p5 (fun h => Or.elim hc50 (fun h9 => h9 h.1) (fun h9 => h9 h.2))))
   refine ai fun _ k51 => ?_
   refine ak hP hN rfl ?_
   (refine aj rfl fun _ k0 => ?_; simp only [zO, zT, acs, reduceCtorEq, aa, V, ad, ag, af, ae, Mly.av, ah, aw, aB, az]; (repeat refine an ?_); (try refine .inl ?_); apply k0; clear k0; simp only [zP, V])
   refine am ?_
   apply k51; clear k51; refine kp [3, 4, 5, 6, 10, 13, 14, 15, 16, 96, 119] ?_
   refine aF ?_
   refine ⟨nr, _, rfl, ?_⟩; simp only [zF, zP, aa, V, Mly.av, ah, aw, aB, az]
   refine VLE.of_eq ?_
   refine congrArg (fun n => AV.one (AC.int IntKind.i64 n)) ?_
   first
   | (rw [hNN]; done)
   | (rw [hNN]; rfl)
   | (rw [hSS]; done)
   | (rw [hSS]; rfl)
  (try simp only [zB, reduceCtorEq] at hc50)
  have hkk := kb (m := m) (rec := rtF m T f) (ini := ini) (cur := cur) hc50
  refine ay ?_
  apply k47; clear k47; refine kp [3, 4, 5, 6, 10, 13, 14, 15, 16, 96, 119] ?_
  refine ai fun _ k52 => ?_
  have hin : ((aC (ouL m cur (T.getD p nd0).2.1)).getD i 0) ∈ (aC (ouL m cur (T.getD p nd0).2.1)) := bl (by omega)
  have hq1 := mQ hm (o := ((aC (ouL m cur (T.getD p nd0).2.1)).getD i 0)) hxa hs
  have hq2 := hU m ini cur (T.getD p nd0).2.1 ((aC (ouL m cur (T.getD p nd0).2.1)).getD i 0) cur.length
  have hq3 := kd hin
  have hq4 : (bB m cur (T.getD p nd0).2.1 cur.length ((aC (ouL m cur (T.getD p nd0).2.1)).getD i 0)).length ≤ 1000 := Nat.le_trans lQ hl
  have hptl := lD m cur (T.getD p nd0).2.1 ((aC (ouL m cur (T.getD p nd0).2.1)).getD i 0) cur.length
  refine bn hP hN Try.mixed rfl ?_
  iterate 8 (refine aj rfl fun _ k0 => ?_; simp only [zO, zT, acs, reduceCtorEq, aa, V, ad, ag, af, ae, Mly.av, ah, aw, aB, az]; (repeat refine an ?_); (try refine .inl ?_); apply k0; clear k0; simp only [zP, V])
  refine aj rfl fun _ k0 => ?_
  refine aK (h := aE (vf m cur (T.getD p nd0).2.1 ((aC (ouL m cur (T.getD p nd0).2.1)).getD i 0) hm hs hxa hl)) rfl rfl (by first | exact rfl | (simp only [ev, zP, aa, V]; exact rfl)) (by simp only [zV, acs, reduceCtorEq, aa, V, ad, ag, af, ae, Mly.av, ah, aw, aB, az]) ?_
  apply k0; clear k0; simp only [zP, V]
  (refine aj rfl fun _ k0 => ?_; simp only [zO, zT, acs, reduceCtorEq, aa, V, ad, ag, af, ae, Mly.av, ah, aw, aB, az]; (repeat refine an ?_); (try refine .inl ?_); apply k0; clear k0; simp only [zP, V])
  refine am ?_
  refine ⟨by kernel_rfl, ?_⟩
  apply k52; clear k52; refine kp [3, 4, 5, 6, 10, 13, 14, 15, 16, 17, 96, 119] ?_
  refine ai fun _ k53 => ?_
  refine bn hP hN Try.mixed rfl ?_
  iterate 5 (refine aj rfl fun _ k0 => ?_; simp only [zO, zT, acs, reduceCtorEq, aa, V, ad, ag, af, ae, Mly.av, ah, aw, aB, az, iw, gH]; (repeat refine an ?_); (try refine .inl ?_); apply k0; clear k0; simp only [zP, V])
  refine aj rfl fun _ k0 => ?_
  refine aK (h := aE (oO ini (ptL m cur (T.getD p nd0).2.1 ((aC (ouL m cur (T.getD p nd0).2.1)).getD i 0) cur.length) (t8 hil) (by omega))) rfl rfl (by first | exact rfl | (simp only [ev, zP, aa, V]; exact rfl)) (by simp only [zV, acs, reduceCtorEq, aa, V, ad, ag, af, ae, Mly.av, ah, aw, aB, az, iw, gH]) ?_
  apply k0; clear k0; simp only [zP, V]
  iterate 3 (refine aj rfl fun _ k0 => ?_; simp only [zO, zT, acs, reduceCtorEq, aa, V, ad, ag, af, ae, Mly.av, ah, aw, aB, az, iw, gH]; (repeat refine an ?_); (try refine .inl ?_); apply k0; clear k0; simp only [zP, V])
  refine aj rfl fun _ k0 => ?_
  refine aK (h := aE (oO cur (ptL m cur (T.getD p nd0).2.1 ((aC (ouL m cur (T.getD p nd0).2.1)).getD i 0) cur.length) (t8 rfl) (by omega))) rfl rfl (by first | exact rfl | (simp only [ev, zP, aa, V]; exact rfl)) (by simp only [zV, acs, reduceCtorEq, aa, V, ad, ag, af, ae, Mly.av, ah, aw, aB, az, iw, gH]) ?_
  apply k0; clear k0; simp only [zP, V]
  iterate 2 (refine aj rfl fun _ k0 => ?_; simp only [zO, zT, acs, reduceCtorEq, aa, V, ad, ag, af, ae, Mly.av, ah, aw, aB, az, iw, gH]; (repeat refine an ?_); (try refine .inl ?_); apply k0; clear k0; simp only [zP, V])
  refine aj rfl fun _ k0 => ?_
  refine aK (h := aE (vO m (pkL cur (ptL m cur (T.getD p nd0).2.1 ((aC (ouL m cur (T.getD p nd0).2.1)).getD i 0) cur.length)) (T.getD p nd0).2.1 hm (zX hs) hxa (by unfold pkL; rw [aD]; omega))) rfl rfl (by first | exact rfl | (simp only [ev, zP, aa, V]; exact rfl)) (by simp only [zV, acs, reduceCtorEq, aa, V, ad, ag, af, ae, Mly.av, ah, aw, aB, az, iw, gH]) ?_
  apply k0; clear k0; simp only [zP, V]
  refine aj rfl fun _ k0 => ?_
  refine aK (h := aE (IH e (bV m ini cur (T.getD p nd0).2.1 cur.length ((aC (ouL m cur (T.getD p nd0).2.1)).getD i 0)) (bB m cur (T.getD p nd0).2.1 cur.length ((aC (ouL m cur (T.getD p nd0).2.1)).getD i 0)) (by omega) (by omega) hq1 hq2 hq3 hq4)) rfl rfl (by first | exact rfl | (simp only [ev, zP, aa, V]; exact rfl)) (by simp only [zV, acs, reduceCtorEq, aa, V, ad, ag, af, ae, Mly.av, ah, aw, aB, az, iw, gH]) ?_
  apply k0; clear k0; simp only [zP, V]
  (refine aj rfl fun _ k0 => ?_; simp only [zO, zT, acs, reduceCtorEq, aa, V, ad, ag, af, ae, Mly.av, ah, aw, aB, az, iw, gH]; (repeat refine an ?_); (try refine .inl ?_); apply k0; clear k0; simp only [zP, V])
  refine am ?_
  refine ⟨by kernel_rfl, ?_⟩
  apply k53; clear k53; refine kp [3, 4, 5, 6, 10, 13, 14, 15, 16, 17, 96, 119] ?_
  refine ai fun _ k54 => ?_
  refine ak hP hN rfl ?_
  iterate 2 (refine aj rfl fun _ k0 => ?_; simp only [zO, zT, acs, reduceCtorEq, aa, V, ad, ag, af, ae, Mly.av, ah, aw, aB, az]; (repeat refine an ?_); (try refine .inl ?_); apply k0; clear k0; simp only [zP, V])
  refine am ?_
  apply k54; clear k54; refine kp [3, 4, 5, 6, 10, 13, 14, 15, 16, 17, 96, 119, 144] ?_
  refine cd (fun hc55 => ?_) (fun hc55 => ?_)
  ·(try simp only [zB, reduceCtorEq] at hc55)
   have hno9 : rtF m T f e (bV m ini cur (T.getD p nd0).2.1 cur.length ((aC (ouL m cur (T.getD p nd0).2.1)).getD i 0)) (bB m cur (T.getD p nd0).2.1 cur.length ((aC (ouL m cur (T.getD p nd0).2.1)).getD i 0)) = none := by
     cases hr : rtF m T f e (bV m ini cur (T.getD p nd0).2.1 cur.length ((aC (ouL m cur (T.getD p nd0).2.1)).getD i 0)) (bB m cur (T.getD p nd0).2.1 cur.length ((aC (ouL m cur (T.getD p nd0).2.1)).getD i 0)) with
     | none => rfl
     | some n =>
       rw [hr] at hc55
       have h9 : (n : Int) < 0 := hc55
       omega
   have hNN : rtF m T (f + 1) p ini cur = none := hrf.trans (jU (by omega) hD (hkk.trans hno9))
   refine ai fun _ k56 => ?_
   refine ak hP hN rfl ?_
   (refine aj rfl fun _ k0 => ?_; simp only [zO, zT, acs, reduceCtorEq, aa, V, ad, ag, af, ae, Mly.av, ah, aw, aB, az]; (repeat refine an ?_); (try refine .inl ?_); apply k0; clear k0; simp only [zP, V])
   refine am ?_
   apply k56; clear k56; refine kp [3, 4, 5, 6, 10, 13, 14, 15, 16, 17, 96, 119, 144] ?_
   refine aF ?_
   refine ⟨nr, _, rfl, ?_⟩; simp only [zF, zP, aa, V, Mly.av, ah, aw, aB, az]
   refine VLE.of_eq ?_
   refine congrArg (fun n => AV.one (AC.int IntKind.i64 n)) ?_
   first
   | (rw [hNN]; done)
   | (rw [hNN]; rfl)
   | (rw [hSS]; done)
   | (rw [hSS]; rfl)
  (try simp only [zB, reduceCtorEq] at hc55)
  obtain ⟨e2, he2⟩ : ∃ e2, rtF m T f e (bV m ini cur (T.getD p nd0).2.1 cur.length ((aC (ouL m cur (T.getD p nd0).2.1)).getD i 0)) (bB m cur (T.getD p nd0).2.1 cur.length ((aC (ouL m cur (T.getD p nd0).2.1)).getD i 0)) = some e2 := by
    cases hr : rtF m T f e (bV m ini cur (T.getD p nd0).2.1 cur.length ((aC (ouL m cur (T.getD p nd0).2.1)).getD i 0)) (bB m cur (T.getD p nd0).2.1 cur.length ((aC (ouL m cur (T.getD p nd0).2.1)).getD i 0)) with
    | none =>
      rw [hr] at hc55
      have h9 : (0 : Int) ≤ -1 := hc55
      omega
    | some n => exact ⟨n, rfl⟩
  have he3 := iQ he2
  have he4 : rtI (rtF m T f e (bV m ini cur (T.getD p nd0).2.1 cur.length ((aC (ouL m cur (T.getD p nd0).2.1)).getD i 0)) (bB m cur (T.getD p nd0).2.1 cur.length ((aC (ouL m cur (T.getD p nd0).2.1)).getD i 0))) = (e2 : Int) := by rw [he2]; rfl
  rw [he4]
  refine ay ?_
  apply k46; clear k46; refine kp [3, 4, 5, 6, 10, 13, 14, 15, 16, 17, 96, 119, 144] ?_
  refine ak hP hN rfl ?_
  iterate 3 (refine aj rfl fun _ k0 => ?_; simp only [zO, zT, acs, reduceCtorEq, aa, V, ad, ag, af, ae, Mly.av, ah, aw, aB, az]; (repeat refine an ?_); (try refine .inl ?_); apply k0; clear k0; simp only [zP, V])
  refine am ?_
  refine ⟨_, _, ?_, ax [3, 4, 5, 6, 10, 13, 14, 15, 16], i + 1, e2, by omega, lh hD (hkk.trans he2), ⟨by omega, by omega⟩, rfl, rfl⟩
  omega
 (try simp only [zB, reduceCtorEq] at hc45)
 have hie : (T.getD p nd0).2.2.1.length = i := by omega
 have hSS : rtF m T (f + 1) p ini cur = some e := by rw [hrf, hie]; exact hD
 refine aV ?_
 apply k40; clear k40; refine kp [3, 4, 5, 6, 10, 13, 14, 15, 16, 96] ?_
 refine ai fun _ k57 => ?_
 refine ak hP hN rfl ?_
 iterate 2 (refine aj rfl fun _ k0 => ?_; simp only [zO, zT, acs, reduceCtorEq, aa, V, ad, ag, af, ae, Mly.av, ah, aw, aB, az]; (repeat refine an ?_); (try refine .inl ?_); apply k0; clear k0; simp only [zP, V])
 refine am ?_
 apply k57; clear k57; refine kp [3, 4, 5, 6, 10, 13, 14, 15, 16, 96] ?_
 refine aF ?_
 refine ⟨nr, _, rfl, ?_⟩; simp only [zF, zP, aa, V, Mly.av, ah, aw, aB, az]
 refine VLE.of_eq ?_
 refine congrArg (fun n => AV.one (AC.int IntKind.i64 n)) ?_
 first
 | (rw [hNN]; done)
 | (rw [hNN]; rfl)
 | (rw [hSS]; done)
 | (rw [hSS]; rfl)
theorem qt (m : Mly) (hm : MOK m) (T : List b7) (hT : T.length ≤ 4096) : ∀ (f p : Nat) (ini cur : List Int), T.length + 1 ≤ f + p → p ≤ T.length → cK m cur → ini.length = cur.length → 0 < cur.length → cur.length ≤ 1000 → bP Try.prog 38 [m.av, .agg [.list ndT T], .one (.int .i64 (p : Int)), .one (.list (.int .i64) ini), .one (.list (.int .i64) cur)] (.one (.int .i64 (rtI (rtF m T f p ini cur))))
  | 0, p, ini, cur, hf, hp, _, _, _, _ => by omega
  | f + 1, p, ini, cur, hf, hp, hs, hil, h0, hl => xc f m hm T hT (qt m hm T hT f) p ini cur hf hp hs hil h0 hl
theorem y2 (m : Mly) (T : List b7) : bP Try.prog 17 [m.av, .agg [.list ndT T]] (.one (.int .i64 (fA m T))) := by
 refine aS Try.func17 rfl (by kernel_rfl) (Nat.le_of_ble_eq_true rfl) rfl fun C hP hN hB => ?_
 replace hN : C.N = 31 := hN
 simp only [bf, V]
 refine ai fun _ k1 => ?_
 refine ak hP hN rfl ?_
 iterate 3 (refine aj rfl fun _ k0 => ?_; simp only [zO, zT, acs, reduceCtorEq, aa, V, ad, ag, af, ae, Mly.av, aX]; (repeat refine an ?_); (try refine .inl ?_); apply k0; clear k0; simp only [zP, V])
 refine am ?_
 apply k1; clear k1; refine kp [0, 1, 2, 3, 4] ?_
 refine ai fun _ k2 => ?_
 refine ai fun _ k3 => ?_
 refine ak hP hN rfl ?_
 (refine aj rfl fun _ k0 => ?_; simp only [zO, zT, acs, reduceCtorEq, aa, V, ad, ag, af, ae, Mly.av, aX]; (repeat refine an ?_); (try refine .inl ?_); apply k0; clear k0; simp only [zP, V])
 refine aj rfl fun _ k0 => ?_
 refine aK (h := aE (xC m)) rfl rfl (by first | exact rfl | (simp only [ev, zP, aa, V]; exact rfl)) (by simp only [zV, acs, reduceCtorEq, aa, V, ad, ag, af, ae, Mly.av, aX]) ?_
 apply k0; clear k0; simp only [zP, V]
 (refine aj rfl fun _ k0 => ?_; simp only [zO, zT, acs, reduceCtorEq, aa, V, ad, ag, af, ae, Mly.av, aX]; (repeat refine an ?_); (try refine .inl ?_); apply k0; clear k0; simp only [zP, V])
 refine am ?_
 apply k3; clear k3; refine kp [0, 1, 2, 3, 4, 5] ?_
 refine ai fun _ k4 => ?_
 refine ak hP hN rfl ?_
 iterate 2 (refine aj rfl fun _ k0 => ?_; simp only [zO, zT, acs, reduceCtorEq, aa, V, ad, ag, af, ae, Mly.av, aX]; (repeat refine an ?_); (try refine .inl ?_); apply k0; clear k0; simp only [zP, V])
 refine am ?_
 apply k4; clear k4; refine kp [0, 1, 2, 3, 4, 5, 10] ?_
 refine cd (fun hc5 => ?_) (fun hc5 => ?_)
 ·(try simp only [zB, reduceCtorEq] at hc5)
  have hE : ¬ fb m = 0 := hc5
  refine ai fun _ k6 => ?_
  refine ak hP hN rfl ?_
  iterate 2 (refine aj rfl fun _ k0 => ?_; simp only [zO, zT, acs, reduceCtorEq, aa, V, ad, ag, af, ae, Mly.av, aX]; (repeat refine an ?_); (try refine .inl ?_); apply k0; clear k0; simp only [zP, V])
  refine am ?_
  apply k6; clear k6; refine kp [0, 1, 2, 3, 4, 5, 10] ?_
  refine aF ?_
  refine ⟨nr, _, rfl, ?_⟩; simp only [zF, zP, aa, V, Mly.av, aX]
  refine VLE.of_eq ?_
  refine congrArg (fun n => AV.one (AC.int IntKind.i64 n)) ?_
  unfold fA
  symm
  first
  | (rw [if_pos hE]; done)
  | (rw [if_neg (fun h => h hE), if_pos hR]; done)
  | (rw [if_neg (fun h => h hE), if_neg hR]; done)
 (try simp only [zB, reduceCtorEq] at hc5)
 have hE : fb m = 0 := by simpa using hc5
 have hm := eO (wg hE)
 have hn1 := hm.n1
 have hn2 := hm.n2
 refine ay ?_
 apply k2; clear k2; refine kp [0, 1, 2, 3, 4, 5, 10] ?_
 refine ai fun _ k7 => ?_
 refine ak hP hN rfl ?_
 iterate 3 (refine aj rfl fun _ k0 => ?_; simp only [zO, zT, acs, reduceCtorEq, aa, V, ad, ag, af, ae, Mly.av, aX]; (repeat refine an ?_); (try refine .inl ?_); apply k0; clear k0; simp only [zP, V])
 refine aj rfl fun _ k0 => ?_
 refine aK (h := aE (xx m.nx.length (by omega))) rfl rfl (by first | exact rfl | (simp only [ev, zP, aa, V]; exact rfl)) (by simp only [zV, acs, reduceCtorEq, aa, V, ad, ag, af, ae, Mly.av, aX]) ?_
 apply k0; clear k0; simp only [zP, V]
 (refine aj rfl fun _ k0 => ?_; simp only [zO, zT, acs, reduceCtorEq, aa, V, ad, ag, af, ae, Mly.av, aX]; (repeat refine an ?_); (try refine .inl ?_); apply k0; clear k0; simp only [zP, V])
 refine am ?_
 apply k7; clear k7; refine kp [0, 1, 2, 3, 4, 5, 6, 10] ?_
 refine ai fun _ k8 => ?_
 refine ai fun _ k9 => ?_
 refine bn hP hN Try.mixed rfl ?_
 iterate 5 (refine aj rfl fun _ k0 => ?_; simp only [zO, zT, acs, reduceCtorEq, aa, V, ad, ag, af, ae, Mly.av, aX]; (repeat refine an ?_); (try refine .inl ?_); apply k0; clear k0; simp only [zP, V])
 refine' aO (want := false) 9 rfl (m := 20) (by simp only [zP, aa, V]; exact rfl) (by kernel_rfl) rfl rfl rfl rfl rfl (fun hg10 => ?a10) ?b10 ?c10
 case a10 =>
  have hq10 := hg10; (try simp only [zB, reduceCtorEq] at hg10); simp only [zE]
  iterate 4 (refine bg rfl fun _ k0 => ?_; simp only [zO, zT, acs, reduceCtorEq, aa, V, ad, ag, af, ae, Mly.av, aX]; (repeat refine an ?_); (try refine .inl ?_); apply k0; clear k0; simp only [zP, V])
  refine bg rfl fun _ k0 => ?_
  refine aK (h := aE (qt m hm T (by omega) (T.length + 1) 0 (rgI m.nx.length) (rgI m.nx.length) (by omega) (by omega) (lA m) rfl (by rw [dc]; omega) (by rw [dc]; omega))) rfl rfl (by first | exact rfl | (simp only [ev, zP, aa, V]; exact rfl)) (by simp only [zV, acs, reduceCtorEq, aa, V, ad, ag, af, ae, Mly.av, aX]) ?_
  apply k0; clear k0; simp only [zP, V]
  iterate 4 (refine bg rfl fun _ k0 => ?_; simp only [zO, zT, acs, reduceCtorEq, aa, V, ad, ag, af, ae, Mly.av, aX]; (repeat refine an ?_); (try refine .inl ?_); apply k0; clear k0; simp only [zP, V])
  (refine aj rfl fun _ k0 => ?_; simp only [zO, zT, acs, reduceCtorEq, aa, V, ad, ag, af, ae, Mly.av, aX]; (repeat refine an ?_); (try refine .inl ?_); apply k0; clear k0; simp only [zP, V])
  refine am ?_
  refine ⟨by simp only [zP, aa, V]; exact rfl, rfl, ?_, rfl⟩; (repeat refine aP rfl ?_); exact bo (by exact rfl) hq10
 case b10 => exact cr
 simp only [bb, aT]
 refine am ?_
 refine ⟨by kernel_rfl, ?_⟩
 apply k9; clear k9; refine kp [0, 1, 2, 3, 4, 5, 6, 10, 30] ?_
 refine cd (fun hc11 => ?_) (fun hc11 => ?_)
 ·(try simp only [zB, reduceCtorEq] at hc11)
  have hR : 4096 < T.length ∨ ¬ rtF m T (T.length + 1) 0 (rgI m.nx.length) (rgI m.nx.length) = some T.length := Or.elim hc11 (fun h9 => .inl (by omega)) (fun h9 => .inr (fun e => h9 (uI.2 e)))
  refine ai fun _ k12 => ?_
  refine ak hP hN rfl ?_
  (refine aj rfl fun _ k0 => ?_; simp only [zO, zT, acs, reduceCtorEq, aa, V, ad, ag, af, ae, Mly.av, aX]; (repeat refine an ?_); (try refine .inl ?_); apply k0; clear k0; simp only [zP, V])
  refine am ?_
  apply k12; clear k12; refine kp [0, 1, 2, 3, 4, 5, 6, 10, 30] ?_
  refine aF ?_
  refine ⟨nr, _, rfl, ?_⟩; simp only [zF, zP, aa, V, Mly.av, aX]
  refine VLE.of_eq ?_
  refine congrArg (fun n => AV.one (AC.int IntKind.i64 n)) ?_
  unfold fA
  symm
  first
  | (rw [if_pos hE]; done)
  | (rw [if_neg (fun h => h hE), if_pos hR]; done)
  | (rw [if_neg (fun h => h hE), if_neg hR]; done)
 (try simp only [zB, reduceCtorEq] at hc11)
 have hR : ¬ (4096 < T.length ∨ ¬ rtF m T (T.length + 1) 0 (rgI m.nx.length) (rgI m.nx.length) = some T.length) := fun h => Or.elim h (fun h9 => by omega) (fun h9 => h9 (uI.1 hc11.2))
 refine ay ?_
 apply k8; clear k8; refine kp [0, 1, 2, 3, 4, 5, 6, 10, 30] ?_
 refine ai fun _ k13 => ?_
 refine ak hP hN rfl ?_
 (refine aj rfl fun _ k0 => ?_; simp only [zO, zT, acs, reduceCtorEq, aa, V, ad, ag, af, ae, Mly.av, aX]; (repeat refine an ?_); (try refine .inl ?_); apply k0; clear k0; simp only [zP, V])
 refine am ?_
 apply k13; clear k13; refine kp [0, 1, 2, 3, 4, 5, 6, 10, 30] ?_
 refine aF ?_
 refine ⟨nr, _, rfl, ?_⟩; simp only [zF, zP, aa, V, Mly.av, aX]
 refine VLE.of_eq ?_
 refine congrArg (fun n => AV.one (AC.int IntKind.i64 n)) ?_
 unfold fA
 symm
 first
 | (rw [if_pos hE]; done)
 | (rw [if_neg (fun h => h hE), if_pos hR]; done)
 | (rw [if_neg (fun h => h hE), if_neg hR]; done)
set_option maxHeartbeats 1500000 in
theorem zr (m : Mly) (T : List b7) (hK : ∀ x ∈ T, x.2.2.1.length ≤ 1000000) (t : Int) : bP Try.prog 23 [m.av, .agg [.list ndT T], .one (.int .i64 t)] (.tup [.one (.list (.int .i64) (if eZ m T t = 0 then (fo m T t).1 else [])), .one (.int .i64 (if eZ m T t = 0 then ((fo m T t).2 : Int) else 0)), .one (.int .i64 (eZ m T t))]) := by
 refine aS Try.func23 rfl (by kernel_rfl) (Nat.le_of_ble_eq_true rfl) rfl fun C hP hN hB => ?_
 replace hN : C.N = 90 := hN
 simp only [bf, V]
 refine ai fun _ k1 => ?_
 refine ak hP hN rfl ?_
 iterate 5 (refine aj rfl fun _ k0 => ?_; simp only [zO, zT, acs, reduceCtorEq, aa, V, ad, ag, af, ae, Mly.av, ah, aw, aB, az]; (repeat refine And.intro (by first | omega | assumption | exact rfl | exact haQ | exact haN | exact hiK | exact hjK) ?_); (try refine .inl ?_); apply k0; clear k0; simp only [zP, V])
 refine am ?_
 apply k1; clear k1; refine kp [0, 1, 2, 3, 4, 6, 7, 8] ?_
 refine ai fun _ k2 => ?_
 refine ai fun _ k3 => ?_
 refine ak hP hN rfl ?_
 iterate 2 (refine aj rfl fun _ k0 => ?_; simp only [zO, zT, acs, reduceCtorEq, aa, V, ad, ag, af, ae, Mly.av, ah, aw, aB, az]; (repeat refine And.intro (by first | omega | assumption | exact rfl | exact haQ | exact haN | exact hiK | exact hjK) ?_); (try refine .inl ?_); apply k0; clear k0; simp only [zP, V])
 refine aj rfl fun _ k0 => ?_
 refine aK (h := aE (y2 m T)) rfl rfl (by first | exact rfl | (simp only [ev, zP, aa, V]; exact rfl)) (by simp only [zV, acs, reduceCtorEq, aa, V, ad, ag, af, ae, Mly.av, ah, aw, aB, az]) ?_
 apply k0; clear k0; simp only [zP, V]
 (refine aj rfl fun _ k0 => ?_; simp only [zO, zT, acs, reduceCtorEq, aa, V, ad, ag, af, ae, Mly.av, ah, aw, aB, az]; (repeat refine And.intro (by first | omega | assumption | exact rfl | exact haQ | exact haN | exact hiK | exact hjK) ?_); (try refine .inl ?_); apply k0; clear k0; simp only [zP, V])
 refine am ?_
 apply k3; clear k3; refine kp [0, 1, 2, 3, 4, 6, 7, 8, 9] ?_
 refine ai fun _ k4 => ?_
 refine ak hP hN rfl ?_
 iterate 2 (refine aj rfl fun _ k0 => ?_; simp only [zO, zT, acs, reduceCtorEq, aa, V, ad, ag, af, ae, Mly.av, ah, aw, aB, az]; (repeat refine And.intro (by first | omega | assumption | exact rfl | exact haQ | exact haN | exact hiK | exact hjK) ?_); (try refine .inl ?_); apply k0; clear k0; simp only [zP, V])
 refine am ?_
 apply k4; clear k4; refine kp [0, 1, 2, 3, 4, 6, 7, 8, 9, 20] ?_
 refine cd (fun hc5 => ?_) (fun hc5 => ?_)
 ·(try simp only [zB, reduceCtorEq] at hc5)
  have hE : eZ m T t = fA m T := if_pos hc5
  have hE0 : ¬ eZ m T t = 0 := by rw [hE]; exact hc5
  refine ai fun _ k6 => ?_
  refine ak hP hN rfl ?_
  iterate 4 (refine aj rfl fun _ k0 => ?_; simp only [zO, zT, acs, reduceCtorEq, aa, V, ad, ag, af, ae, Mly.av, ah, aw, aB, az]; (repeat refine And.intro (by first | omega | assumption | exact rfl | exact haQ | exact haN | exact hiK | exact hjK) ?_); (try refine .inl ?_); apply k0; clear k0; simp only [zP, V])
  refine am ?_
  apply k6; clear k6; refine kp [0, 1, 2, 3, 4, 6, 7, 8, 9, 20] ?_
  refine aF ?_
  refine ⟨nr, _, rfl, ?_⟩; simp only [zF, zP, aa, V, Mly.av, ah, aw, aB, az]
  first
  | (rw [if_neg hE0, if_neg hE0, hE]; exact cg ⟨aU (bq rfl), aU (.refl _), aU (.refl _), trivial⟩)
  | (rw [if_pos hE, if_pos hE, hE, hW1, hW2]; exact VLE.of_eq rfl)
 (try simp only [zB, reduceCtorEq] at hc5)
 have hE0 : fA m T = 0 := by simpa using hc5
 obtain ⟨hv, hT, hrt⟩ := xT hE0
 have hm := eO hv
 have hn2 := hm.n2
 have ol := hm.ol
 refine ay ?_
 apply k2; clear k2; refine kp [0, 1, 2, 3, 4, 6, 7, 8, 9, 20] ?_
 refine ai fun _ k7 => ?_
 refine ai fun _ k8 => ?_
 refine ak hP hN rfl ?_
 iterate 3 (refine aj rfl fun _ k0 => ?_; simp only [zO, zT, acs, reduceCtorEq, aa, V, ad, ag, af, ae, Mly.av, ah, aw, aB, az]; (repeat refine And.intro (by first | omega | assumption | exact rfl | exact haQ | exact haN | exact hiK | exact hjK) ?_); (try refine .inl ?_); apply k0; clear k0; simp only [zP, V])
 refine' aO (want := false) 5 rfl (m := 24) (by simp only [zP, aa, V]; exact rfl) (by kernel_rfl) rfl rfl rfl rfl rfl (fun hg9 => ?a9) ?b9 ?c9
 case a9 =>
  have hq9 := hg9; (try simp only [zB, reduceCtorEq] at hg9); simp only [zE]
  iterate 5 (refine bg rfl fun _ k0 => ?_; simp only [zO, zT, acs, reduceCtorEq, aa, V, ad, ag, af, ae, Mly.av, ah, aw, aB, az]; (repeat refine And.intro (by first | omega | assumption | exact rfl | exact haQ | exact haN | exact hiK | exact hjK) ?_); (try refine .inl ?_); apply k0; clear k0; simp only [zP, V])
  (refine aj rfl fun _ k0 => ?_; simp only [zO, zT, acs, reduceCtorEq, aa, V, ad, ag, af, ae, Mly.av, ah, aw, aB, az]; (repeat refine And.intro (by first | omega | assumption | exact rfl | exact haQ | exact haN | exact hiK | exact hjK) ?_); (try refine .inl ?_); apply k0; clear k0; simp only [zP, V])
  refine am ?_
  refine ⟨by simp only [zP, aa, V]; exact rfl, rfl, ?_, rfl⟩; (repeat refine aP rfl ?_); exact bo (by exact rfl) hq9
 case b9 => exact cr
 simp only [bb, aT]
 refine am ?_
 apply k8; clear k8; refine kp [0, 1, 2, 3, 4, 6, 7, 8, 9, 20, 30] ?_
 refine cd (fun hc10 => ?_) (fun hc10 => ?_)
 ·(try simp only [zB, reduceCtorEq] at hc10)
  have hE : eZ m T t = 2 := (if_neg (fun h => h hE0)).trans (if_pos hc10)
  have hE0 : ¬ eZ m T t = 0 := by rw [hE]; decide
  refine ai fun _ k11 => ?_
  refine ak hP hN rfl ?_
  iterate 3 (refine aj rfl fun _ k0 => ?_; simp only [zO, zT, acs, reduceCtorEq, aa, V, ad, ag, af, ae, Mly.av, ah, aw, aB, az]; (repeat refine And.intro (by first | omega | assumption | exact rfl | exact haQ | exact haN | exact hiK | exact hjK) ?_); (try refine .inl ?_); apply k0; clear k0; simp only [zP, V])
  refine am ?_
  apply k11; clear k11; refine kp [0, 1, 2, 3, 4, 6, 7, 8, 9, 20, 30] ?_
  refine aF ?_
  refine ⟨nr, _, rfl, ?_⟩; simp only [zF, zP, aa, V, Mly.av, ah, aw, aB, az]
  first
  | (rw [if_neg hE0, if_neg hE0, hE]; exact cg ⟨aU (bq rfl), aU (.refl _), aU (.refl _), trivial⟩)
  | (rw [if_pos hE, if_pos hE, hE, hW1, hW2]; exact VLE.of_eq rfl)
 (try simp only [zB, reduceCtorEq] at hc10)
 have ht : 0 ≤ t ∧ t < m.nx.length := hc10
 have hE : eZ m T t = 0 := (if_neg (fun h => h hE0)).trans (if_neg (by omega))
 refine ay ?_
 apply k7; clear k7; refine kp [0, 1, 2, 3, 4, 6, 7, 8, 9, 20, 30] ?_
 refine ai fun _ k12 => ?_
 refine ak hP hN rfl ?_
 (refine aj rfl fun _ k0 => ?_; simp only [zO, zT, acs, reduceCtorEq, aa, V, ad, ag, af, ae, Mly.av, ah, aw, aB, az]; (repeat refine And.intro (by first | omega | assumption | exact rfl | exact haQ | exact haN | exact hiK | exact hjK) ?_); (try refine .inl ?_); apply k0; clear k0; simp only [zP, V])
 refine am ?_
 apply k12; clear k12; refine kp [0, 1, 2, 3, 4, 6, 7, 8, 9, 10, 20, 30] ?_
 refine ai fun _ k13 => ?_
 refine ak hP hN rfl ?_
 (refine aj rfl fun _ k0 => ?_; simp only [zO, zT, acs, reduceCtorEq, aa, V, ad, ag, af, ae, Mly.av, ah, aw, aB, az]; (repeat refine And.intro (by first | omega | assumption | exact rfl | exact haQ | exact haN | exact hiK | exact hjK) ?_); (try refine .inl ?_); apply k0; clear k0; simp only [zP, V])
 refine am ?_
 apply k13; clear k13; refine kp [0, 1, 2, 3, 4, 6, 7, 8, 9, 10, 11, 20, 30] ?_
 refine ai fun _ k14 => ?_
 refine aA ?_
 refine dZ 10 (.int .i64) 3 (by decide) rfl ?_; simp only [au, aG, aM, b6, Nat.zero_add, V]
 refine aY (fun n15 s15 => ∃ (p f v : Nat) (s : Int) (W : List Int), (RTI m T p s) ∧ ((W ++ (wdG m T f p s).1, (wdG m T f p s).2) = fo m T t) ∧ (T.length ≤ f + p) ∧ (W.length ≤ p) ∧ n15 = T.length + 1 - p ∧ s15 = { env := [(2, .one (.int .i64 s)), (3, .one (.ptr 0 0 0 0)), (4, .one (.ptr 1 0 0 0)), (6, .one .nils), (7, .one (.int .i64 0)), (8, .one (.int .i64 0)), (10, .one (.row 2 v)), (11, .one (.int .i64 (p : Int)))], L := [.vars 24 [.int .i64 m.inp, .int .i64 m.st, .list (.list (.int .i64)) m.nx, .list (.list (.int .i64)) m.ot], .vars 29 [.list ndT T], .row (.int .i64) 3 v W] }) ?_ ?_
 ·exact ⟨_, _, ax [2, 3, 4, 6, 7, 8, 10, 11], 0, T.length, 0, t, [], qT hrt ht, rfl, by omega, Nat.zero_le _, rfl, rfl⟩
 rintro n15 s15 ⟨p, f, v, s, W, hrti, hW, hfp, hWl, rfl, rfl⟩
 refine ai fun _ k16 => ?_
 refine ai fun _ k17 => ?_
 have hpl9 := wH hrti
 refine ak hP hN rfl ?_
 iterate 7 (refine aj rfl fun _ k0 => ?_; simp only [zO, zT, acs, reduceCtorEq, aa, V, ad, ag, af, ae, Mly.av, ah, aw, aB, az]; (repeat refine And.intro (by first | omega | assumption | exact rfl | exact haQ | exact haN | exact hiK | exact hjK) ?_); (try refine .inl ?_); apply k0; clear k0; simp only [zP, V])
 refine am ?_
 apply k17; clear k17; refine kp [2, 3, 4, 6, 7, 8, 10, 11, 37] ?_
 refine cd (fun hc18 => ?_) (fun hc18 => ?_)
 ·(try simp only [zB, reduceCtorEq] at hc18)
  have h0 : ¬ (T.getD p nd0).2.1 < 0 := by have h9 : 0 ≤ (T.getD p nd0).2.1 := hc18; omega
  obtain ⟨hpl, hs9, ha9, i0, hi0, hk0, hku, hk1, hk2, hrti2⟩ := tc hm hrti h0
  have hkm : (T.getD p nd0) ∈ T := by simp [List.getD, hpl]
  have hkl := hK _ hkm
  have q1 := hm.rl s.toNat (by omega)
  have q2 := hm.ql s.toNat (by omega)
  have hto : (((T.getD p nd0).2.2.1.getD i0 kd0).2.1.toNat : Int) = ((T.getD p nd0).2.2.1.getD i0 kd0).2.1 := by omega
  have haQ : 0 ≤ (T.getD p nd0).2.1 ∧ (T.getD p nd0).2.1 < ((m.ot.getD s.toNat []).length : Int) := by omega
  have haN : 0 ≤ (T.getD p nd0).2.1 ∧ (T.getD p nd0).2.1 < ((m.nx.getD s.toNat []).length : Int) := by omega
  have hiK : (0 : Int) ≤ (i0 : Int) ∧ (i0 : Int) < ((T.getD p nd0).2.2.1.length : Int) := by omega
  refine ay ?_
  apply k16; clear k16; refine kp [2, 3, 4, 6, 7, 8, 10, 11, 37] ?_
  refine aA ?_
  refine ai fun _ k19 => ?_
  refine ak hP hN rfl ?_
  iterate 7 (refine aj rfl fun _ k0 => ?_; simp only [zO, zT, acs, reduceCtorEq, aa, V, ad, ag, af, ae, Mly.av, ah, aw, aB, az]; (repeat refine And.intro (by first | omega | assumption | exact rfl | exact haQ | exact haN | exact hiK | exact hjK) ?_); (try refine .inl ?_); apply k0; clear k0; simp only [zP, V])
  refine am ?_
  apply k19; clear k19; refine kp [2, 3, 4, 6, 7, 8, 10, 11, 12, 37] ?_
  refine ai fun _ k20 => ?_
  refine ak hP hN rfl ?_
  iterate 9 (refine aj rfl fun _ k0 => ?_; simp only [zO, zT, acs, reduceCtorEq, aa, V, ad, ag, af, ae, Mly.av, ah, aw, aB, az]; (repeat refine And.intro (by first | omega | assumption | exact rfl | exact haQ | exact haN | exact hiK | exact hjK) ?_); (try refine .inl ?_); apply k0; clear k0; simp only [zP, V])
  refine am ?_
  apply k20; clear k20; refine kp [2, 3, 4, 6, 7, 8, 10, 11, 12, 13, 37] ?_
  refine ai fun _ k21 => ?_
  refine ak hP hN rfl ?_
  iterate 5 (refine aj rfl fun _ k0 => ?_; simp only [zO, zT, acs, reduceCtorEq, aa, V, ad, ag, af, ae, Mly.av, ah, aw, aB, az]; (repeat refine And.intro (by first | omega | assumption | exact rfl | exact haQ | exact haN | exact hiK | exact hjK) ?_); (try refine .inl ?_); apply k0; clear k0; simp only [zP, V])
  refine am ?_
  apply k21; clear k21; refine kp [2, 3, 4, 6, 7, 8, 10, 11, 12, 13, 37] ?_
  refine ai fun _ k22 => ?_
  refine ak hP hN rfl ?_
  iterate 9 (refine aj rfl fun _ k0 => ?_; simp only [zO, zT, acs, reduceCtorEq, aa, V, ad, ag, af, ae, Mly.av, ah, aw, aB, az]; (repeat refine And.intro (by first | omega | assumption | exact rfl | exact haQ | exact haN | exact hiK | exact hjK) ?_); (try refine .inl ?_); apply k0; clear k0; simp only [zP, V])
  refine am ?_
  apply k22; clear k22; refine kp [2, 3, 4, 6, 7, 8, 10, 11, 12, 13, 37] ?_
  refine ai fun _ k23 => ?_
  refine ak hP hN rfl ?_
  iterate 7 (refine aj rfl fun _ k0 => ?_; simp only [zO, zT, acs, reduceCtorEq, aa, V, ad, ag, af, ae, Mly.av, ah, aw, aB, az]; (repeat refine And.intro (by first | omega | assumption | exact rfl | exact haQ | exact haN | exact hiK | exact hjK) ?_); (try refine .inl ?_); apply k0; clear k0; simp only [zP, V])
  refine am ?_
  apply k23; clear k23; refine kp [2, 3, 4, 6, 7, 8, 10, 11, 12, 13, 14, 37] ?_
  refine ai fun _ k24 => ?_
  refine ak hP hN rfl ?_
  (refine aj rfl fun _ k0 => ?_; simp only [zO, zT, acs, reduceCtorEq, aa, V, ad, ag, af, ae, Mly.av, ah, aw, aB, az]; (repeat refine And.intro (by first | omega | assumption | exact rfl | exact haQ | exact haN | exact hiK | exact hjK) ?_); (try refine .inl ?_); apply k0; clear k0; simp only [zP, V])
  refine am ?_
  apply k24; clear k24; refine kp [2, 3, 4, 6, 7, 8, 10, 11, 12, 13, 14, 15, 37] ?_
  refine aA ?_
  refine aY (fun n25 s25 => ∃ (j : Nat), (j ≤ (T.getD p nd0).2.2.1.length) ∧ n25 = (T.getD p nd0).2.2.1.length - j ∧ s25 = { env := [(2, .one (.int .i64 (m.nxt s (T.getD p nd0).2.1))), (3, .one (.ptr 0 0 0 0)), (4, .one (.ptr 1 0 0 0)), (6, .one .nils), (7, .one (.int .i64 0)), (8, .one (.int .i64 0)), (10, .one (.row 2 (v + 1))), (11, .one (.int .i64 (if i0 < j then ((T.getD p nd0).2.2.1.getD i0 kd0).2.1 else (p : Int)))), (12, .one (.int .i64 (T.getD p nd0).2.1)), (13, .one (.int .i64 (m.out s (T.getD p nd0).2.1))), (14, .one (.list kdT (T.getD p nd0).2.2.1)), (15, .one (.int .i64 (j : Int))), (37, .one (.bool true))], L := [.vars 24 [.int .i64 m.inp, .int .i64 m.st, .list (.list (.int .i64)) m.nx, .list (.list (.int .i64)) m.ot], .vars 29 [.list ndT T], .row (.int .i64) 3 (v + 1) (W ++ [(T.getD p nd0).2.1])] }) ?_ ?_
  ·refine ⟨_, _, ax [2, 3, 4, 6, 7, 8, 10, 11, 12, 13, 14, 15, 37], 0, Nat.zero_le _, rfl, ?_⟩
   rw [decide_eq_true (show 0 ≤ (T.getD p nd0).2.1 by omega)]; rfl
  rintro n25 s25 ⟨j, hj, rfl, rfl⟩
  refine ai fun _ k26 => ?_
  refine ai fun _ k27 => ?_
  refine ak hP hN rfl ?_
  iterate 4 (refine aj rfl fun _ k0 => ?_; simp only [zO, zT, acs, reduceCtorEq, aa, V, ad, ag, af, ae, Mly.av, ah, aw, aB, az]; (repeat refine And.intro (by first | omega | assumption | exact rfl | exact haQ | exact haN | exact hiK | exact hjK) ?_); (try refine .inl ?_); apply k0; clear k0; simp only [zP, V])
  refine am ?_
  apply k27; clear k27; refine kp [2, 3, 4, 6, 7, 8, 10, 11, 12, 13, 14, 15, 37, 73] ?_
  refine cd (fun hc28 => ?_) (fun hc28 => ?_)
  ·(try simp only [zB, reduceCtorEq] at hc28)
   have hjl9 : (j : Int) < ((T.getD p nd0).2.2.1.length : Int) := hc28
   refine ay ?_
   apply k26; clear k26; refine kp [2, 3, 4, 6, 7, 8, 10, 11, 12, 13, 14, 15, 37, 73] ?_
   refine ai fun _ k29 => ?_
   refine aA ?_
   refine ai fun _ k30 => ?_
   have hjK : (0 : Int) ≤ (j : Int) ∧ (j : Int) < ((T.getD p nd0).2.2.1.length : Int) := by omega
   have hjl : j < (T.getD p nd0).2.2.1.length := by omega
   refine ak hP hN rfl ?_
   iterate 7 (refine aj rfl fun _ k0 => ?_; simp only [zO, zT, acs, reduceCtorEq, aa, V, ad, ag, af, ae, Mly.av, ah, aw, aB, az]; (repeat refine And.intro (by first | omega | assumption | exact rfl | exact haQ | exact haN | exact hiK | exact hjK) ?_); (try refine .inl ?_); apply k0; clear k0; simp only [zP, V])
   refine am ?_
   apply k30; clear k30; refine kp [2, 3, 4, 6, 7, 8, 10, 11, 12, 13, 14, 15, 37, 73, 82] ?_
   refine cd (fun hc31 => ?_) (fun hc31 => ?_)
   ·(try simp only [zB, reduceCtorEq] at hc31)
    have hji : j = i0 := hku j hjl hc31
    refine ak hP hN rfl ?_
    iterate 6 (refine aj rfl fun _ k0 => ?_; simp only [zO, zT, acs, reduceCtorEq, aa, V, ad, ag, af, ae, Mly.av, ah, aw, aB, az]; (repeat refine And.intro (by first | omega | assumption | exact rfl | exact haQ | exact haN | exact hiK | exact hjK) ?_); (try refine .inl ?_); apply k0; clear k0; simp only [zP, V])
    refine am ?_
    apply k29; clear k29; refine kp [2, 3, 4, 6, 7, 8, 10, 11, 12, 13, 14, 15, 37, 73, 82] ?_
    refine ak hP hN rfl ?_
    iterate 3 (refine aj rfl fun _ k0 => ?_; simp only [zO, zT, acs, reduceCtorEq, aa, V, ad, ag, af, ae, Mly.av, ah, aw, aB, az]; (repeat refine And.intro (by first | omega | assumption | exact rfl | exact haQ | exact haN | exact hiK | exact hjK) ?_); (try refine .inl ?_); apply k0; clear k0; simp only [zP, V])
    refine am ?_
    first
    | (refine ⟨_, _, ?_, ax [2, 3, 4, 6, 7, 8, 10, 11, 12, 13, 14, 15, 37], j + 1, by omega, rfl, ?_⟩
       · omega
       · rw [hji, if_pos (by omega)]; rfl)
    | (refine ⟨_, _, ?_, ax [2, 3, 4, 6, 7, 8, 10, 11, 12, 13, 14, 15, 37], j + 1, by omega, rfl, ?_⟩
       · omega
       · by_cases e : i0 < j
         · rw [if_pos e, if_pos (by omega)]; rfl
         · rw [if_neg e, if_neg (by omega)]; rfl)
   (try simp only [zB, reduceCtorEq] at hc31)
   have hji : ¬ j = i0 := fun e => hc31 (by rw [e]; exact hk0)
   refine ay ?_
   apply k29; clear k29; refine kp [2, 3, 4, 6, 7, 8, 10, 11, 12, 13, 14, 15, 37, 73, 82] ?_
   refine ak hP hN rfl ?_
   iterate 3 (refine aj rfl fun _ k0 => ?_; simp only [zO, zT, acs, reduceCtorEq, aa, V, ad, ag, af, ae, Mly.av, ah, aw, aB, az]; (repeat refine And.intro (by first | omega | assumption | exact rfl | exact haQ | exact haN | exact hiK | exact hjK) ?_); (try refine .inl ?_); apply k0; clear k0; simp only [zP, V])
   refine am ?_
   first
   | (refine ⟨_, _, ?_, ax [2, 3, 4, 6, 7, 8, 10, 11, 12, 13, 14, 15, 37], j + 1, by omega, rfl, ?_⟩
      · omega
      · rw [hji, if_pos (by omega)]; rfl)
   | (refine ⟨_, _, ?_, ax [2, 3, 4, 6, 7, 8, 10, 11, 12, 13, 14, 15, 37], j + 1, by omega, rfl, ?_⟩
      · omega
      · by_cases e : i0 < j
        · rw [if_pos e, if_pos (by omega)]; rfl
        · rw [if_neg e, if_neg (by omega)]; rfl)
  (try simp only [zB, reduceCtorEq] at hc28)
  have hie : (T.getD p nd0).2.2.1.length ≤ j := by have h9 : ((T.getD p nd0).2.2.1.length : Int) ≤ (j : Int) := hc28; omega
  refine aV ?_
  obtain ⟨g, rfl⟩ : ∃ g, f = g + 1 := ⟨f - 1, by omega⟩
  refine ⟨_, _, ?_, ax [2, 3, 4, 6, 7, 8, 10, 11], ((T.getD p nd0).2.2.1.getD i0 kd0).2.1.toNat, g, v + 1, m.nxt s (T.getD p nd0).2.1, W ++ [(T.getD p nd0).2.1], hrti2, tF h0 hi0 hk0 hku hW, by omega, by rw [aq]; simp only [au, aG]; omega, rfl, ?_⟩
  · omega
  · rw [if_pos (show i0 < j by omega), hto]; rfl
 (try simp only [zB, reduceCtorEq] at hc18)
 have h0 : (T.getD p nd0).2.1 < 0 := by have h9 : (T.getD p nd0).2.1 < 0 := hc18; exact h9
 rw [pS h0, List.append_nil] at hW
 have hW1 : (fo m T t).1 = W := by rw [← hW]
 have hW2 : (fo m T t).2 = p := by rw [← hW]
 refine aV ?_
 apply k14; clear k14; refine kp [2, 3, 4, 6, 7, 8, 10, 11, 37] ?_
 refine ai fun _ k32 => ?_
 refine cq 2 rfl ?_; simp only [aH, bh, zS, aa, and_self, and_true, true_and, and_false, false_and, if_true, if_false, eq_self, reduceCtorEq, Nat.one_ne_zero, Nat.zero_ne_one]
 refine ak hP hN rfl ?_
 iterate 5 (refine aj rfl fun _ k0 => ?_; simp only [zO, zT, acs, reduceCtorEq, aa, V, ad, ag, af, ae, Mly.av, ah, aw, aB, az]; (repeat refine And.intro (by first | omega | assumption | exact rfl | exact haQ | exact haN | exact hiK | exact hjK) ?_); (try refine .inl ?_); apply k0; clear k0; simp only [zP, V])
 refine am ?_
 apply k32; clear k32; refine kp [2, 3, 4, 6, 7, 8, 10, 11, 37] ?_
 refine aF ?_
 refine ⟨nr, _, rfl, ?_⟩; simp only [zF, zP, aa, V, Mly.av, ah, aw, aB, az]
 first
 | (rw [if_neg hE0, if_neg hE0, hE]; exact cg ⟨aU (bq rfl), aU (.refl _), aU (.refl _), trivial⟩)
 | (rw [if_pos hE, if_pos hE, hE, hW1, hW2]; exact VLE.of_eq rfl)
set_option maxHeartbeats 1000000 in
theorem vp (m : Mly) : bP Try.prog 31 [m.av] (.one (.bool (iM m))) := by
 refine aS Try.func31 rfl (by kernel_rfl) (Nat.le_of_ble_eq_true rfl) rfl fun C hP hN hB => ?_
 replace hN : C.N = 48 := hN
 simp only [bf, V]
 refine ai fun _ k1 => ?_
 refine ak hP hN rfl ?_
 iterate 2 (refine aj rfl fun _ k0 => ?_; simp only [zO, zT, acs, reduceCtorEq, aa, V, ad, ag, af, ae, Mly.av, ah]; (repeat refine an ?_); (try refine .inl ?_); apply k0; clear k0; simp only [zP, V])
 refine am ?_
 apply k1; clear k1; refine kp [0, 1, 2] ?_
 refine ai fun _ k2 => ?_
 refine ai fun _ k3 => ?_
 refine ak hP hN rfl ?_
 iterate 5 (refine aj rfl fun _ k0 => ?_; simp only [zO, zT, acs, reduceCtorEq, aa, V, ad, ag, af, ae, Mly.av, ah]; (repeat refine an ?_); (try refine .inl ?_); apply k0; clear k0; simp only [zP, V])
 refine' aO (want := false) 4 rfl (m := 9) (by simp only [zP, aa, V]; exact rfl) (by kernel_rfl) rfl rfl rfl rfl rfl (fun hg4 => ?a4) ?b4 ?c4
 case a4 =>
  have hq4 := hg4; (try simp only [zB, reduceCtorEq] at hg4); simp only [zE]
  iterate 4 (refine bg rfl fun _ k0 => ?_; simp only [zO, zT, acs, reduceCtorEq, aa, V, ad, ag, af, ae, Mly.av, ah]; (repeat refine an ?_); (try refine .inl ?_); apply k0; clear k0; simp only [zP, V])
  (refine aj rfl fun _ k0 => ?_; simp only [zO, zT, acs, reduceCtorEq, aa, V, ad, ag, af, ae, Mly.av, ah]; (repeat refine an ?_); (try refine .inl ?_); apply k0; clear k0; simp only [zP, V])
  refine am ?_
  refine ⟨by simp only [zP, aa, V]; exact rfl, rfl, ?_, rfl⟩; (repeat refine aP rfl ?_); exact bo (by exact rfl) hq4
 case b4 => exact cr
 simp only [bb, aT]
 (refine aj rfl fun _ k0 => ?_; simp only [zO, zT, acs, reduceCtorEq, aa, V, ad, ag, af, ae, Mly.av, ah]; (repeat refine an ?_); (try refine .inl ?_); apply k0; clear k0; simp only [zP, V])
 refine' aO (want := false) 3 rfl (m := 15) (by simp only [zP, aa, V]; exact rfl) (by kernel_rfl) rfl rfl rfl rfl rfl (fun hg5 => ?a5) ?b5 ?c5
 case a5 =>
  have hq5 := hg5; (try simp only [zB, reduceCtorEq] at hg5); simp only [zE]
  iterate 3 (refine bg rfl fun _ k0 => ?_; simp only [zO, zT, acs, reduceCtorEq, aa, V, ad, ag, af, ae, Mly.av, ah]; (repeat refine an ?_); (try refine .inl ?_); apply k0; clear k0; simp only [zP, V])
  (refine aj rfl fun _ k0 => ?_; simp only [zO, zT, acs, reduceCtorEq, aa, V, ad, ag, af, ae, Mly.av, ah]; (repeat refine an ?_); (try refine .inl ?_); apply k0; clear k0; simp only [zP, V])
  refine am ?_
  refine ⟨by simp only [zP, aa, V]; exact rfl, rfl, ?_, rfl⟩; (repeat refine aP rfl ?_); exact bo (by exact rfl) hq5
 case b5 => exact cr
 simp only [bb, aT]
 refine am ?_
 apply k3; clear k3; refine kp [0, 1, 2, 19] ?_
 refine cd (fun hc6 => ?_) (fun hc6 => ?_)
 ·(try simp only [zB, reduceCtorEq] at hc6)
  have hg : iM m = true := zJ (Or.elim hc6 (fun h9 => .inl (Or.elim h9 (fun h8 => .inl (by have h7 : (12 : Int) < (m.nx.length : Int) := h8; omega)) (fun h8 => .inr (by have h7 : (12 : Int) < (m.ot.length : Int) := h8; omega)))) (fun h9 => .inr h9))
  refine ai fun _ k7 => ?_
  refine ak hP hN rfl ?_
  (refine aj rfl fun _ k0 => ?_; simp only [zO, zT, acs, reduceCtorEq, aa, V, ad, ag, af, ae, Mly.av, ah]; (repeat refine an ?_); (try refine .inl ?_); apply k0; clear k0; simp only [zP, V])
  refine am ?_
  apply k7; clear k7; refine kp [0, 1, 2, 19] ?_
  refine aF ?_
  refine ⟨nr, _, rfl, ?_⟩; simp only [zF, zP, aa, V, Mly.av, ah]
  refine VLE.of_eq ?_
  refine congrArg (fun b => AV.one (AC.bool b)) ?_
  symm
  first
  | exact hg
  | exact oe hg0 hqN (fun q h => hqo q (by omega))
 (try simp only [zB, reduceCtorEq] at hc6)
 have hg0 : ¬ ((12 < m.nx.length ∨ 12 < m.ot.length) ∨ 6 < m.inp) := by
   have h7 : (m.nx.length : Int) ≤ 12 := hc6.1.1
   have h8 : (m.ot.length : Int) ≤ 12 := hc6.1.2
   have h9 : m.inp ≤ 6 := hc6.2
   omega
 refine ay ?_
 apply k2; clear k2; refine kp [0, 1, 2, 19] ?_
 refine ai fun _ k8 => ?_
 refine ai fun _ k9 => ?_
 refine ak hP hN rfl ?_
 iterate 4 (refine aj rfl fun _ k0 => ?_; simp only [zO, zT, acs, reduceCtorEq, aa, V, ad, ag, af, ae, Mly.av, ah]; (repeat refine an ?_); (try refine .inl ?_); apply k0; clear k0; simp only [zP, V])
 refine am ?_
 apply k9; clear k9; refine kp [0, 1, 2, 19, 22, 23] ?_
 refine aA ?_
 refine aY (fun n10 s10 => ∃ (k : Nat), (k ≤ m.nx.length) ∧ (∀ q, q < k → (m.nx.getD q []).length ≤ 12) ∧ n10 = m.nx.length - k ∧ s10 = { env := [(1, .one (.ptr 0 0 0 0)), (2, .one (.bool false)), (22, .one (.int .i64 (m.nx.length : Int))), (23, .one (.int .i64 (k : Int)))], L := [.vars 24 [.int .i64 m.inp, .int .i64 m.st, .list (.list (.int .i64)) m.nx, .list (.list (.int .i64)) m.ot]] }) ?_ ?_
 ·exact ⟨_, _, ax [1, 2, 22, 23], 0, Nat.zero_le _, fun q h => by omega, rfl, rfl⟩
 rintro n10 s10 ⟨k, hkn, hqn, rfl, rfl⟩
 refine ai fun _ k11 => ?_
 refine ak hP hN rfl ?_
 (refine aj rfl fun _ k0 => ?_; simp only [zO, zT, acs, reduceCtorEq, aa, V, ad, ag, af, ae, Mly.av, ah]; (repeat refine an ?_); (try refine .inl ?_); apply k0; clear k0; simp only [zP, V])
 refine am ?_
 apply k11; clear k11; refine kp [1, 2, 22, 23, 24] ?_
 refine ai fun _ k12 => ?_
 refine cd (fun hc13 => ?_) (fun hc13 => ?_)
 ·(try simp only [zB, reduceCtorEq] at hc13)
  refine ay ?_
  apply k12; clear k12; refine kp [1, 2, 22, 23, 24] ?_
  refine ai fun _ k14 => ?_
  refine aA ?_
  refine ai fun _ k15 => ?_
  refine ak hP hN rfl ?_
  iterate 2 (refine aj rfl fun _ k0 => ?_; simp only [zO, zT, acs, reduceCtorEq, aa, V, ad, ag, af, ae, Mly.av, ah]; (repeat refine an ?_); (try refine .inl ?_); apply k0; clear k0; simp only [zP, V])
  refine am ?_
  apply k15; clear k15; refine kp [1, 2, 3, 22, 23, 24] ?_
  refine ai fun _ k16 => ?_
  refine ak hP hN rfl ?_
  iterate 7 (refine aj rfl fun _ k0 => ?_; simp only [zO, zT, acs, reduceCtorEq, aa, V, ad, ag, af, ae, Mly.av, ah]; (repeat refine an ?_); (try refine .inl ?_); apply k0; clear k0; simp only [zP, V])
  refine am ?_
  apply k16; clear k16; refine kp [1, 2, 3, 22, 23, 24, 32] ?_
  refine cd (fun hc17 => ?_) (fun hc17 => ?_)
  ·(try simp only [zB, reduceCtorEq] at hc17)
   have hg : iM m = true := zU (k := k) (by omega) (by have h7 : (12 : Int) < ((m.nx.getD k []).length : Int) := hc17; omega)
   refine ai fun _ k18 => ?_
   refine ak hP hN rfl ?_
   (refine aj rfl fun _ k0 => ?_; simp only [zO, zT, acs, reduceCtorEq, aa, V, ad, ag, af, ae, Mly.av, ah]; (repeat refine an ?_); (try refine .inl ?_); apply k0; clear k0; simp only [zP, V])
   refine am ?_
   apply k18; clear k18; refine kp [1, 2, 3, 22, 23, 24, 32] ?_
   refine aF ?_
   refine ⟨nr, _, rfl, ?_⟩; simp only [zF, zP, aa, V, Mly.av, ah]
   refine VLE.of_eq ?_
   refine congrArg (fun b => AV.one (AC.bool b)) ?_
   symm
   first
   | exact hg
   | exact oe hg0 hqN (fun q h => hqo q (by omega))
  (try simp only [zB, reduceCtorEq] at hc17)
  have hrow : (m.nx.getD k []).length ≤ 12 := by have h7 : ((m.nx.getD k []).length : Int) ≤ 12 := hc17; omega
  refine ay ?_
  apply k14; clear k14; refine kp [1, 2, 3, 22, 23, 24, 32] ?_
  refine ak hP hN rfl ?_
  iterate 2 (refine aj rfl fun _ k0 => ?_; simp only [zO, zT, acs, reduceCtorEq, aa, V, ad, ag, af, ae, Mly.av, ah]; (repeat refine an ?_); (try refine .inl ?_); apply k0; clear k0; simp only [zP, V])
  refine am ?_
  refine ⟨_, _, ?_, ax [1, 2, 22, 23], k + 1, by omega, fun q h => ?_, rfl, rfl⟩
  · omega
  · by_cases e : q = k
    · rw [e]; exact hrow
    · exact hqn q (by omega)
 (try simp only [zB, reduceCtorEq] at hc13)
 refine aV ?_
 apply k8; clear k8; refine kp [1, 2, 22, 23, 24] ?_
 refine ai fun _ k19 => ?_
 refine ai fun _ k20 => ?_
 have hqN : ∀ q, q < m.nx.length → (m.nx.getD q []).length ≤ 12 := fun q h => hqn q (by omega)
 have hkn9 := hkn
 clear hqn
 refine ak hP hN rfl ?_
 iterate 4 (refine aj rfl fun _ k0 => ?_; simp only [zO, zT, acs, reduceCtorEq, aa, V, ad, ag, af, ae, Mly.av, ah]; (repeat refine an ?_); (try refine .inl ?_); apply k0; clear k0; simp only [zP, V])
 refine am ?_
 apply k20; clear k20; refine kp [1, 2, 22, 23, 24, 36, 37] ?_
 refine aA ?_
 refine aY (fun n21 s21 => ∃ (k : Nat), (k ≤ m.ot.length) ∧ (∀ q, q < k → (m.ot.getD q []).length ≤ 12) ∧ n21 = m.ot.length - k ∧ s21 = { env := [(1, .one (.ptr 0 0 0 0)), (2, .one (.bool false)), (36, .one (.int .i64 (m.ot.length : Int))), (37, .one (.int .i64 (k : Int)))], L := [.vars 24 [.int .i64 m.inp, .int .i64 m.st, .list (.list (.int .i64)) m.nx, .list (.list (.int .i64)) m.ot]] }) ?_ ?_
 ·exact ⟨_, _, ax [1, 2, 36, 37], 0, Nat.zero_le _, fun q h => by omega, rfl, rfl⟩
 rintro n21 s21 ⟨k, hko, hqo, rfl, rfl⟩
 refine ai fun _ k22 => ?_
 refine ak hP hN rfl ?_
 (refine aj rfl fun _ k0 => ?_; simp only [zO, zT, acs, reduceCtorEq, aa, V, ad, ag, af, ae, Mly.av, ah]; (repeat refine an ?_); (try refine .inl ?_); apply k0; clear k0; simp only [zP, V])
 refine am ?_
 apply k22; clear k22; refine kp [1, 2, 36, 37, 38] ?_
 refine ai fun _ k23 => ?_
 refine cd (fun hc24 => ?_) (fun hc24 => ?_)
 ·(try simp only [zB, reduceCtorEq] at hc24)
  refine ay ?_
  apply k23; clear k23; refine kp [1, 2, 36, 37, 38] ?_
  refine ai fun _ k25 => ?_
  refine aA ?_
  refine ai fun _ k26 => ?_
  refine ak hP hN rfl ?_
  iterate 2 (refine aj rfl fun _ k0 => ?_; simp only [zO, zT, acs, reduceCtorEq, aa, V, ad, ag, af, ae, Mly.av, ah]; (repeat refine an ?_); (try refine .inl ?_); apply k0; clear k0; simp only [zP, V])
  refine am ?_
  apply k26; clear k26; refine kp [1, 2, 4, 36, 37, 38] ?_
  refine ai fun _ k27 => ?_
  refine ak hP hN rfl ?_
  iterate 7 (refine aj rfl fun _ k0 => ?_; simp only [zO, zT, acs, reduceCtorEq, aa, V, ad, ag, af, ae, Mly.av, ah]; (repeat refine an ?_); (try refine .inl ?_); apply k0; clear k0; simp only [zP, V])
  refine am ?_
  apply k27; clear k27; refine kp [1, 2, 4, 36, 37, 38, 46] ?_
  refine cd (fun hc28 => ?_) (fun hc28 => ?_)
  ·(try simp only [zB, reduceCtorEq] at hc28)
   have hg : iM m = true := A0 (k := k) (by omega) (by have h7 : (12 : Int) < ((m.ot.getD k []).length : Int) := hc28; omega)
   refine ai fun _ k29 => ?_
   refine ak hP hN rfl ?_
   (refine aj rfl fun _ k0 => ?_; simp only [zO, zT, acs, reduceCtorEq, aa, V, ad, ag, af, ae, Mly.av, ah]; (repeat refine an ?_); (try refine .inl ?_); apply k0; clear k0; simp only [zP, V])
   refine am ?_
   apply k29; clear k29; refine kp [1, 2, 4, 36, 37, 38, 46] ?_
   refine aF ?_
   refine ⟨nr, _, rfl, ?_⟩; simp only [zF, zP, aa, V, Mly.av, ah]
   refine VLE.of_eq ?_
   refine congrArg (fun b => AV.one (AC.bool b)) ?_
   symm
   first
   | exact hg
   | exact oe hg0 hqN (fun q h => hqo q (by omega))
  (try simp only [zB, reduceCtorEq] at hc28)
  have hrow : (m.ot.getD k []).length ≤ 12 := by have h7 : ((m.ot.getD k []).length : Int) ≤ 12 := hc28; omega
  refine ay ?_
  apply k25; clear k25; refine kp [1, 2, 4, 36, 37, 38, 46] ?_
  refine ak hP hN rfl ?_
  iterate 2 (refine aj rfl fun _ k0 => ?_; simp only [zO, zT, acs, reduceCtorEq, aa, V, ad, ag, af, ae, Mly.av, ah]; (repeat refine an ?_); (try refine .inl ?_); apply k0; clear k0; simp only [zP, V])
  refine am ?_
  refine ⟨_, _, ?_, ax [1, 2, 36, 37], k + 1, by omega, fun q h => ?_, rfl, rfl⟩
  · omega
  · by_cases e : q = k
    · rw [e]; exact hrow
    · exact hqo q (by omega)
 (try simp only [zB, reduceCtorEq] at hc24)
 refine aV ?_
 apply k19; clear k19; refine kp [1, 2, 36, 37, 38] ?_
 refine ai fun _ k30 => ?_
 refine ak hP hN rfl ?_
 (refine aj rfl fun _ k0 => ?_; simp only [zO, zT, acs, reduceCtorEq, aa, V, ad, ag, af, ae, Mly.av, ah]; (repeat refine an ?_); (try refine .inl ?_); apply k0; clear k0; simp only [zP, V])
 refine am ?_
 apply k30; clear k30; refine kp [1, 2, 36, 37, 38] ?_
 refine aF ?_
 refine ⟨nr, _, rfl, ?_⟩; simp only [zF, zP, aa, V, Mly.av, ah]
 refine VLE.of_eq ?_
 refine congrArg (fun b => AV.one (AC.bool b)) ?_
 symm
 first
 | exact hg
 | exact oe hg0 hqN (fun q h => hqo q (by omega))
theorem v6 (m : Mly) : bP Try.prog 9 [m.av] (.one (.bool (AE m))) := by
 refine aS Try.func9 rfl (by kernel_rfl) (Nat.le_of_ble_eq_true rfl) rfl fun C hP hN hB => ?_
 replace hN : C.N = 17 := hN
 simp only [bf, V]
 refine ai fun _ k1 => ?_
 refine ak hP hN rfl ?_
 iterate 2 (refine aj rfl fun _ k0 => ?_; simp only [zO, zT, acs, reduceCtorEq, aa, V, ad, ag, af, ae, Mly.av]; (repeat refine an ?_); (try refine .inl ?_); apply k0; clear k0; simp only [zP, V])
 refine am ?_
 apply k1; clear k1; refine kp [0, 1, 2] ?_
 refine ai fun _ k2 => ?_
 refine ak hP hN rfl ?_
 (refine aj rfl fun _ k0 => ?_; simp only [zO, zT, acs, reduceCtorEq, aa, V, ad, ag, af, ae, Mly.av]; (repeat refine an ?_); (try refine .inl ?_); apply k0; clear k0; simp only [zP, V])
 refine aj rfl fun _ k0 => ?_
 refine aK (h := aE (vp m)) rfl rfl (by first | exact rfl | (simp only [ev, zP, aa, V]; exact rfl)) (by simp only [zV, acs, reduceCtorEq, aa, V, ad, ag, af, ae, Mly.av]) ?_
 apply k0; clear k0; simp only [zP, V]
 iterate 2 (refine aj rfl fun _ k0 => ?_; simp only [zO, zT, acs, reduceCtorEq, aa, V, ad, ag, af, ae, Mly.av]; (repeat refine an ?_); (try refine .inl ?_); apply k0; clear k0; simp only [zP, V])
 refine' aO (want := true) 4 rfl (m := 6) (by simp only [zP, aa, V]; exact rfl) (by kernel_rfl) rfl rfl rfl rfl rfl (fun hg3 => ?a3) ?b3 ?c3
 case a3 =>
  have hq3 := hg3; (try simp only [zB, reduceCtorEq] at hg3); simp only [zE]
  iterate 4 (refine bg rfl fun _ k0 => ?_; simp only [zO, zT, acs, reduceCtorEq, aa, V, ad, ag, af, ae, Mly.av]; (repeat refine an ?_); (try refine .inl ?_); apply k0; clear k0; simp only [zP, V])
  (refine aj rfl fun _ k0 => ?_; simp only [zO, zT, acs, reduceCtorEq, aa, V, ad, ag, af, ae, Mly.av]; (repeat refine an ?_); (try refine .inl ?_); apply k0; clear k0; simp only [zP, V])
  refine am ?_
  refine ⟨by simp only [zP, aa, V]; exact rfl, rfl, ?_, rfl⟩; (repeat refine aP rfl ?_); exact bo (by exact rfl) hq3
 case b3 => exact cr
 simp only [bb, aT]
 (refine aj rfl fun _ k0 => ?_; simp only [zO, zT, acs, reduceCtorEq, aa, V, ad, ag, af, ae, Mly.av]; (repeat refine an ?_); (try refine .inl ?_); apply k0; clear k0; simp only [zP, V])
 refine' aO (want := true) 3 rfl (m := 12) (by simp only [zP, aa, V]; exact rfl) (by kernel_rfl) rfl rfl rfl rfl rfl (fun hg4 => ?a4) ?b4 ?c4
 case a4 =>
  have hq4 := hg4; (try simp only [zB, reduceCtorEq] at hg4); simp only [zE]
  iterate 3 (refine bg rfl fun _ k0 => ?_; simp only [zO, zT, acs, reduceCtorEq, aa, V, ad, ag, af, ae, Mly.av]; (repeat refine an ?_); (try refine .inl ?_); apply k0; clear k0; simp only [zP, V])
  (refine aj rfl fun _ k0 => ?_; simp only [zO, zT, acs, reduceCtorEq, aa, V, ad, ag, af, ae, Mly.av]; (repeat refine an ?_); (try refine .inl ?_); apply k0; clear k0; simp only [zP, V])
  refine am ?_
  refine ⟨by simp only [zP, aa, V]; exact rfl, rfl, ?_, rfl⟩; (repeat refine aP rfl ?_); exact bo (by exact rfl) hq4
 case b4 => exact cr
 simp only [bb, aT]
 (refine aj rfl fun _ k0 => ?_; simp only [zO, zT, acs, reduceCtorEq, aa, V, ad, ag, af, ae, Mly.av]; (repeat refine an ?_); (try refine .inl ?_); apply k0; clear k0; simp only [zP, V])
 refine am ?_
 apply k2; clear k2; refine kp [0, 1, 2] ?_
 refine aF ?_
 refine ⟨nr, _, rfl, ?_⟩; simp only [zF, zP, aa, V, Mly.av]
 refine VLE.of_eq ?_
 refine congrArg (fun b => AV.one (AC.bool b)) ?_
 unfold AE
 rw [show decide ((m.nx.length : Int) ≤ 8) = decide (m.nx.length ≤ 8) by rw [decide_eq_decide]; omega]
set_option maxHeartbeats 1000000 in
theorem A6 (m : Mly) (T : List b7) (s : Int) : bP Try.prog 5 [m.av, .agg [.list ndT T], .one (.int .i64 s)] (.one (.bool true)) := by
 refine aS Try.func5 rfl (by kernel_rfl) (Nat.le_of_ble_eq_true rfl) rfl fun C hP hN hB => ?_
 replace hN : C.N = 54 := hN
 simp only [bf, V]
 refine ai fun _ k1 => ?_
 refine ak hP hN rfl ?_
 iterate 3 (refine aj rfl fun _ k0 => ?_; simp only [zO, zT, acs, reduceCtorEq, aa, V, ad, ag, af, ae, Mly.av]; (repeat refine an ?_); (try refine .inl ?_); apply k0; clear k0; simp only [zP, V])
 refine am ?_
 apply k1; clear k1; refine kp [0, 1, 2, 3, 4, 6] ?_
 refine ai fun _ k2 => ?_
 refine ai fun _ k3 => ?_
 refine ak hP hN rfl ?_
 (refine aj rfl fun _ k0 => ?_; simp only [zO, zT, acs, reduceCtorEq, aa, V, ad, ag, af, ae, Mly.av]; (repeat refine an ?_); (try refine .inl ?_); apply k0; clear k0; simp only [zP, V])
 refine aj rfl fun _ k0 => ?_
 refine aK (h := aE (v6 m)) rfl rfl (by first | exact rfl | (simp only [ev, zP, aa, V]; exact rfl)) (by simp only [zV, acs, reduceCtorEq, aa, V, ad, ag, af, ae, Mly.av]) ?_
 apply k0; clear k0; simp only [zP, V]
 iterate 2 (refine aj rfl fun _ k0 => ?_; simp only [zO, zT, acs, reduceCtorEq, aa, V, ad, ag, af, ae, Mly.av]; (repeat refine an ?_); (try refine .inl ?_); apply k0; clear k0; simp only [zP, V])
 refine' aO (want := false) 3 rfl (m := 16) (by simp only [zP, aa, V]; exact rfl) (by kernel_rfl) rfl rfl rfl rfl rfl (fun hg4 => ?a4) ?b4 ?c4
 case a4 =>
  have hq4 := hg4; (try simp only [zB, reduceCtorEq] at hg4); simp only [zE]
  (refine bg rfl fun _ k0 => ?_; simp only [zO, zT, acs, reduceCtorEq, aa, V, ad, ag, af, ae, Mly.av]; (repeat refine an ?_); (try refine .inl ?_); apply k0; clear k0; simp only [zP, V])
  refine bg rfl fun _ k0 => ?_
  refine aK (h := aE (B8 T)) rfl rfl (by first | exact rfl | (simp only [ev, zP, aa, V]; exact rfl)) (by simp only [zV, acs, reduceCtorEq, aa, V, ad, ag, af, ae, Mly.av]) ?_
  apply k0; clear k0; simp only [zP, V]
  (refine bg rfl fun _ k0 => ?_; simp only [zO, zT, acs, reduceCtorEq, aa, V, ad, ag, af, ae, Mly.av]; (repeat refine an ?_); (try refine .inl ?_); apply k0; clear k0; simp only [zP, V])
  (refine aj rfl fun _ k0 => ?_; simp only [zO, zT, acs, reduceCtorEq, aa, V, ad, ag, af, ae, Mly.av]; (repeat refine an ?_); (try refine .inl ?_); apply k0; clear k0; simp only [zP, V])
  refine am ?_
  refine ⟨by simp only [zP, aa, V]; exact rfl, rfl, ?_, rfl⟩; (repeat refine aP rfl ?_); exact bo (by exact rfl) hq4
 case b4 => exact cr
 simp only [bb, aT]
 refine am ?_
 apply k3; clear k3; refine kp [0, 1, 2, 3, 4, 6, 20] ?_
 refine cd (fun hc5 => ?_) (fun hc5 => ?_)
 ·(try simp only [zB, reduceCtorEq] at hc5)
  refine ai fun _ k6 => ?_
  refine ak hP hN rfl ?_
  refine aj rfl fun _ k0 => ?_
  refine aK (h := aE wI) rfl rfl (by first | exact rfl | (simp only [ev, zP, aa, V]; exact rfl)) (by simp only [zV, acs, reduceCtorEq, aa, V, ad, ag, af, ae, Mly.av]) ?_
  apply k0; clear k0; simp only [zP, V]
  (refine aj rfl fun _ k0 => ?_; simp only [zO, zT, acs, reduceCtorEq, aa, V, ad, ag, af, ae, Mly.av]; (repeat refine an ?_); (try refine .inl ?_); apply k0; clear k0; simp only [zP, V])
  refine am ?_
  apply k6; clear k6; refine kp [0, 1, 2, 3, 4, 6, 20] ?_
  refine aF ?_
  refine ⟨nr, _, rfl, ?_⟩; simp only [zF, zP, aa, V, Mly.av]
  refine VLE.of_eq ?_
  first | rfl | (refine congrArg (fun b => AV.one (AC.bool b)) ?_; rw [show eZ m T s = fm m T s by unfold eZ fm fA eK; rw [um]]; simp; done)
 (try simp only [zB, reduceCtorEq] at hc5)
 have hfw := AQ hc5.2
 have k6 : ∀ x ∈ T, x.2.2.1.length ≤ 1000000 := fun x hx => Nat.le_trans (hfw.2 x hx) (by decide)
 refine ay ?_
 apply k2; clear k2; refine kp [0, 1, 2, 3, 4, 6, 20] ?_
 refine ai fun _ k7 => ?_
 refine ak hP hN rfl ?_
 iterate 3 (refine aj rfl fun _ k0 => ?_; simp only [zO, zT, acs, reduceCtorEq, aa, V, ad, ag, af, ae, Mly.av]; (repeat refine an ?_); (try refine .inl ?_); apply k0; clear k0; simp only [zP, V])
 refine aj rfl fun _ k0 => ?_
 refine aK (h := aE (tb m T k6 s)) rfl rfl (by first | exact rfl | (simp only [ev, zP, aa, V]; exact rfl)) (by simp only [zV, acs, reduceCtorEq, aa, V, ad, ag, af, ae, Mly.av]) ?_
 apply k0; clear k0; simp only [zP, V]
 iterate 7 (refine aj rfl fun _ k0 => ?_; simp only [zO, zT, acs, reduceCtorEq, aa, V, ad, ag, af, ae, Mly.av]; (repeat refine an ?_); (try refine .inl ?_); apply k0; clear k0; simp only [zP, V])
 refine am ?_
 apply k7; clear k7; refine kp [0, 1, 2, 3, 4, 6, 7, 8, 9, 20] ?_
 refine ai fun _ k8 => ?_
 refine ak hP hN rfl ?_
 iterate 3 (refine aj rfl fun _ k0 => ?_; simp only [zO, zT, acs, reduceCtorEq, aa, V, ad, ag, af, ae, Mly.av]; (repeat refine an ?_); (try refine .inl ?_); apply k0; clear k0; simp only [zP, V])
 refine aj rfl fun _ k0 => ?_
 refine aK (h := aE (zr m T k6 s)) rfl rfl (by first | exact rfl | (simp only [ev, zP, aa, V]; exact rfl)) (by simp only [zV, acs, reduceCtorEq, aa, V, ad, ag, af, ae, Mly.av]) ?_
 apply k0; clear k0; simp only [zP, V]
 iterate 7 (refine aj rfl fun _ k0 => ?_; simp only [zO, zT, acs, reduceCtorEq, aa, V, ad, ag, af, ae, Mly.av]; (repeat refine an ?_); (try refine .inl ?_); apply k0; clear k0; simp only [zP, V])
 refine am ?_
 apply k8; clear k8; refine kp [0, 1, 2, 3, 4, 6, 7, 8, 9, 10, 11, 12, 20] ?_
 refine ai fun _ k9 => ?_
 refine ak hP hN rfl ?_
 iterate 2 (refine aj rfl fun _ k0 => ?_; simp only [zO, zT, acs, reduceCtorEq, aa, V, ad, ag, af, ae, Mly.av]; (repeat refine an ?_); (try refine .inl ?_); apply k0; clear k0; simp only [zP, V])
 refine aj rfl fun _ k0 => ?_
 refine aK (h := aE (sS (if fm m T s = 0 then (fo m T s).1 else []) (if eZ m T s = 0 then (fo m T s).1 else []))) rfl rfl (by first | exact rfl | (simp only [ev, zP, aa, V]; exact rfl)) (by simp only [zV, acs, reduceCtorEq, aa, V, ad, ag, af, ae, Mly.av]) ?_
 apply k0; clear k0; simp only [zP, V]
 (refine aj rfl fun _ k0 => ?_; simp only [zO, zT, acs, reduceCtorEq, aa, V, ad, ag, af, ae, Mly.av]; (repeat refine an ?_); (try refine .inl ?_); apply k0; clear k0; simp only [zP, V])
 refine' aO (want := true) 3 rfl (m := 41) (by simp only [zP, aa, V]; exact rfl) (by kernel_rfl) rfl rfl rfl rfl rfl (fun hg10 => ?a10) ?b10 ?c10
 case a10 =>
  have hq10 := hg10; (try simp only [zB, reduceCtorEq] at hg10); simp only [zE]
  iterate 3 (refine bg rfl fun _ k0 => ?_; simp only [zO, zT, acs, reduceCtorEq, aa, V, ad, ag, af, ae, Mly.av]; (repeat refine an ?_); (try refine .inl ?_); apply k0; clear k0; simp only [zP, V])
  (refine aj rfl fun _ k0 => ?_; simp only [zO, zT, acs, reduceCtorEq, aa, V, ad, ag, af, ae, Mly.av]; (repeat refine an ?_); (try refine .inl ?_); apply k0; clear k0; simp only [zP, V])
  refine am ?_
  refine ⟨by simp only [zP, aa, V]; exact rfl, rfl, ?_, rfl⟩; (repeat refine aP rfl ?_); exact bo (by exact rfl) hq10
 case b10 => exact cr
 simp only [bb, aT]
 (refine aj rfl fun _ k0 => ?_; simp only [zO, zT, acs, reduceCtorEq, aa, V, ad, ag, af, ae, Mly.av]; (repeat refine an ?_); (try refine .inl ?_); apply k0; clear k0; simp only [zP, V])
 refine' aO (want := true) 3 rfl (m := 46) (by simp only [zP, aa, V]; exact rfl) (by kernel_rfl) rfl rfl rfl rfl rfl (fun hg11 => ?a11) ?b11 ?c11
 case a11 =>
  have hq11 := hg11; (try simp only [zB, reduceCtorEq] at hg11); simp only [zE]
  iterate 3 (refine bg rfl fun _ k0 => ?_; simp only [zO, zT, acs, reduceCtorEq, aa, V, ad, ag, af, ae, Mly.av]; (repeat refine an ?_); (try refine .inl ?_); apply k0; clear k0; simp only [zP, V])
  (refine aj rfl fun _ k0 => ?_; simp only [zO, zT, acs, reduceCtorEq, aa, V, ad, ag, af, ae, Mly.av]; (repeat refine an ?_); (try refine .inl ?_); apply k0; clear k0; simp only [zP, V])
  refine am ?_
  refine ⟨by simp only [zP, aa, V]; exact rfl, rfl, ?_, rfl⟩; (repeat refine aP rfl ?_); exact bo (by exact rfl) hq11
 case b11 => exact cr
 simp only [bb, aT]
 (refine aj rfl fun _ k0 => ?_; simp only [zO, zT, acs, reduceCtorEq, aa, V, ad, ag, af, ae, Mly.av]; (repeat refine an ?_); (try refine .inl ?_); apply k0; clear k0; simp only [zP, V])
 refine' aO (want := true) 1 rfl (m := 51) (by simp only [zP, aa, V]; exact rfl) (by kernel_rfl) rfl rfl rfl rfl rfl (fun hg12 => ?a12) ?b12 ?c12
 case a12 =>
  have hq12 := hg12; (try simp only [zB, reduceCtorEq] at hg12); simp only [zE]
  refine bg rfl fun _ k0 => ?_
  refine aK (h := aE wI) rfl rfl (by first | exact rfl | (simp only [ev, zP, aa, V]; exact rfl)) (by simp only [zV, acs, reduceCtorEq, aa, V, ad, ag, af, ae, Mly.av]) ?_
  apply k0; clear k0; simp only [zP, V]
  (refine aj rfl fun _ k0 => ?_; simp only [zO, zT, acs, reduceCtorEq, aa, V, ad, ag, af, ae, Mly.av]; (repeat refine an ?_); (try refine .inl ?_); apply k0; clear k0; simp only [zP, V])
  refine am ?_
  refine ⟨by simp only [zP, aa, V]; exact rfl, rfl, ?_, rfl⟩; (repeat refine aP rfl ?_); exact bo (by exact rfl) hq12
 case b12 => exact cr
 simp only [bb, aT]
 (refine aj rfl fun _ k0 => ?_; simp only [zO, zT, acs, reduceCtorEq, aa, V, ad, ag, af, ae, Mly.av]; (repeat refine an ?_); (try refine .inl ?_); apply k0; clear k0; simp only [zP, V])
 refine am ?_
 apply k9; clear k9; refine kp [0, 1, 2, 3, 4, 6, 7, 8, 9, 10, 11, 12, 20] ?_
 refine aF ?_
 refine ⟨nr, _, rfl, ?_⟩; simp only [zF, zP, aa, V, Mly.av]
 refine VLE.of_eq ?_
 first | rfl | (refine congrArg (fun b => AV.one (AC.bool b)) ?_; rw [show eZ m T s = fm m T s by unfold eZ fm fA eK; rw [um]]; simp; done)
end Go.Proofs.Ytoahhklogohehaa
