/- Contracts of functions of this seat, each out of a walk through its code, and plain facts on what they compute. Conditions: those that each theorem names. -/
import Derived.Test.YtoahhklogohehaaW03
set_option linter.unusedSimpArgs false
set_option linter.unusedVariables false
set_option maxRecDepth 100000
namespace Go.Proofs.Ytoahhklogohehaa
open Go Go.AV
open Nat renaming reduceEqDiff → aa, reduceAdd → V, reduceLeDiff → ad, reduceLT → ag, reduceMul → af, reduceSub → ae
open List renaming set_cons_zero → cD, set_cons_succ → cm, getD_cons_zero → ar, length_append → aq, map_cons → aH, cons_append → aM, map_nil → bh, length_cons → au, nil_append → b6, take_succ_cons → dz, length_nil → aG, length_map → aD, length_replicate → bj, take_length → aI, mem_cons_self → aQ, mem_cons_of_mem → aJ
open Int renaming toNat_natCast → ah
set_option maxHeartbeats 4000000 in
theorem y7 (f : Nat) (m : Mly) (hm : MOK m) (T : List b7) (hT : T.length ≤ 4096) (IH : ∀ (p : Nat) (ini cur : List Int) (x : Value), T.length + 1 ≤ f + p → p ≤ T.length → cK m cur → ini.length = cur.length → 0 < cur.length → cur.length ≤ 1000 → ∀ (L0 : List AO) (m0 : Nat) (hm0 : L0[m0]? = some (.vars 62 [.int .i64 m.inp, .int .i64 m.st, .list (.list (.int .i64)) m.nx, .list (.list (.int .i64)) m.ot, .exact x])), ep Try.prog L0 37 (List.map (mv1 m0) [.one (.ptr 0 0 0 0), .agg [.list ndT T], .one (.int .i64 (p : Int)), .agg [.list (.int .i64) ini, .list (.int .i64) cur]]) { av := .tup [.one (.int .i64 (rtP m T f p ini cur)), .one (.bool (rtF m T f p ini cur).isSome)], upd := [(m0, .vars 62 [.int .i64 m.inp, .int .i64 m.st, .list (.list (.int .i64)) m.nx, .list (.list (.int .i64)) m.ot, .exact x])], fp := [m0] }) (p : Nat) (ini cur : List Int) (x : Value) (hf : T.length + 1 ≤ (f + 1) + p) (hp : p ≤ T.length) (hs : cK m cur) (hil : ini.length = cur.length) (h0 : 0 < cur.length) (hl : cur.length ≤ 1000) (L0 : List AO) (m0 : Nat) (hm0 : L0[m0]? = some (.vars 62 [.int .i64 m.inp, .int .i64 m.st, .list (.list (.int .i64)) m.nx, .list (.list (.int .i64)) m.ot, .exact x])) : ep Try.prog L0 37 (List.map (mv1 m0) [.one (.ptr 0 0 0 0), .agg [.list ndT T], .one (.int .i64 (p : Int)), .agg [.list (.int .i64) ini, .list (.int .i64) cur]]) { av := .tup [.one (.int .i64 (rtP m T (f + 1) p ini cur)), .one (.bool (rtF m T (f + 1) p ini cur).isSome)], upd := [(m0, .vars 62 [.int .i64 m.inp, .int .i64 m.st, .list (.list (.int .i64)) m.nx, .list (.list (.int .i64)) m.ot, .exact x])], fp := [m0] } := by
 refine pF Try.func37 rfl (by kernel_rfl) (Nat.le_of_ble_eq_true rfl) rfl rfl (fun C hP hN hB => ?_) L0 m0 hm0
 replace hN : C.N = 124 := hN
 simp only [bf, V]
 refine ai fun _ k1 => ?_
 refine ak hP hN rfl ?_
 iterate 4 (refine aj rfl fun _ k0 => ?_; simp only [zO, zT, acs, reduceCtorEq, aa, V, ad, ag, af, ae, ah, aw, aB, az, aL]; (repeat refine an ?_); (try refine .inl ?_); apply k0; clear k0; simp only [zP, V])
 refine am ?_
 apply k1; clear k1; refine kp [0, 1, 2, 3, 5, 7, 8, 9] ?_
 refine ai fun _ k2 => ?_
 refine ai fun _ k3 => ?_
 refine bn hP hN Try.mixed rfl ?_
 iterate 6 (refine aj rfl fun _ k0 => ?_; simp only [zO, zT, acs, reduceCtorEq, aa, V, ad, ag, af, ae, ah, aw, aB, az, aL]; (repeat refine an ?_); (try refine .inl ?_); apply k0; clear k0; simp only [zP, V])
 refine' aO (want := false) 10 rfl (m := 23) (by simp only [zP, aa, V]; exact rfl) (by kernel_rfl) rfl rfl rfl rfl rfl (fun hg4 => ?a4) ?b4 ?c4
 case a4 =>
  have hq4 := hg4; (try simp only [zB, reduceCtorEq] at hg4); simp only [zE]
  iterate 8 (refine bg rfl fun _ k0 => ?_; simp only [zO, zT, acs, reduceCtorEq, aa, V, ad, ag, af, ae, ah, aw, aB, az, aL]; (repeat refine an ?_); (try refine .inl ?_); apply k0; clear k0; simp only [zP, V])
  refine bg rfl fun _ k0 => ?_
  refine aK (h := aE (B1 (T.getD p nd0).1 ini)) rfl rfl (by first | exact rfl | (simp only [ev, zP, aa, V]; exact rfl)) (by simp only [zV, acs, reduceCtorEq, aa, V, ad, ag, af, ae, ah, aw, aB, az, aL]) ?_
  apply k0; clear k0; simp only [zP, V]
  (refine bg rfl fun _ k0 => ?_; simp only [zO, zT, acs, reduceCtorEq, aa, V, ad, ag, af, ae, ah, aw, aB, az, aL]; (repeat refine an ?_); (try refine .inl ?_); apply k0; clear k0; simp only [zP, V])
  (refine aj rfl fun _ k0 => ?_; simp only [zO, zT, acs, reduceCtorEq, aa, V, ad, ag, af, ae, ah, aw, aB, az, aL]; (repeat refine an ?_); (try refine .inl ?_); apply k0; clear k0; simp only [zP, V])
  refine am ?_
  refine ⟨by simp only [zP, aa, V]; exact rfl, rfl, ?_, rfl⟩; (repeat refine aP rfl ?_); exact bo (by exact rfl) hq4
 case b4 => exact cr
 simp only [bb, aT]
 (refine aj rfl fun _ k0 => ?_; simp only [zO, zT, acs, reduceCtorEq, aa, V, ad, ag, af, ae, ah, aw, aB, az, aL]; (repeat refine an ?_); (try refine .inl ?_); apply k0; clear k0; simp only [zP, V])
 refine' aO (want := false) 7 rfl (m := 35) (by simp only [zP, aa, V]; exact rfl) (by kernel_rfl) rfl rfl rfl rfl rfl (fun hg5 => ?a5) ?b5 ?c5
 case a5 =>
  have hq5 := hg5; (try simp only [zB, reduceCtorEq] at hg5); simp only [zE]
  iterate 2 (refine bg rfl fun _ k0 => ?_; simp only [zO, zT, acs, reduceCtorEq, aa, V, ad, ag, af, ae, ah, aw, aB, az, aL]; (repeat refine an ?_); (try refine .inl ?_); apply k0; clear k0; simp only [zP, V])
  refine bg rfl fun _ k0 => ?_
  refine aK (h := aE (vo cur h0 (by omega))) rfl rfl (by first | exact rfl | (simp only [ev, zP, aa, V]; exact rfl)) (by simp only [zV, acs, reduceCtorEq, aa, V, ad, ag, af, ae, ah, aw, aB, az, aL]) ?_
  apply k0; clear k0; simp only [zP, V]
  iterate 4 (refine bg rfl fun _ k0 => ?_; simp only [zO, zT, acs, reduceCtorEq, aa, V, ad, ag, af, ae, ah, aw, aB, az, aL]; (repeat refine an ?_); (try refine .inl ?_); apply k0; clear k0; simp only [zP, V])
  (refine aj rfl fun _ k0 => ?_; simp only [zO, zT, acs, reduceCtorEq, aa, V, ad, ag, af, ae, ah, aw, aB, az, aL]; (repeat refine an ?_); (try refine .inl ?_); apply k0; clear k0; simp only [zP, V])
  refine am ?_
  refine ⟨by simp only [zP, aa, V]; exact rfl, rfl, ?_, rfl⟩; (repeat refine aP rfl ?_); exact bo (by exact rfl) hq5
 case b5 => exact cr
 simp only [bb, aT]
 refine am ?_
 refine ⟨by kernel_rfl, ?_⟩
 apply k3; clear k3; refine kp [0, 1, 2, 3, 5, 7, 8, 9, 43] ?_
 refine cd (fun hc6 => ?_) (fun hc6 => ?_)
 ·(try simp only [zB, reduceCtorEq] at hc6)
  have hno : ¬ (p < T.length ∧ (T.getD p nd0).1 = ini ∧ cur.Nodup) := by
    rintro ⟨h1, h2, h3⟩
    have h4 := nA.2 h3
    rcases hc6 with (h9 | h9) | h9
    · omega
    · exact h9 h2
    · omega
  have hNN := kr (m := m) (f := f) hno
  have hMM : ¬ ((p < T.length ∧ (T.getD p nd0).1 = ini ∧ cur.Nodup) ∧ (T.getD p nd0).2.1 = -1) := fun h => hno h.1
  refine ai fun _ k7 => ?_
  refine ak hP hN rfl ?_
  iterate 2 (refine aj rfl fun _ k0 => ?_; simp only [zO, zT, acs, reduceCtorEq, aa, V, ad, ag, af, ae, ah, aw, aB, az, aL]; (repeat refine an ?_); (try refine .inl ?_); apply k0; clear k0; simp only [zP, V])
  refine am ?_
  apply k7; clear k7; refine kp [0, 1, 2, 3, 5, 7, 8, 9, 43] ?_
  refine aF ?_
  refine ⟨by first | exact .inl rfl | exact .inr rfl, _, rfl, _, _, rfl, ?_, ?_⟩ <;> simp only [fzV, fz1, fzC, aH, bh, zP, aa, V, ah, aw, aB, az, aL]
  all_goals first
  | (rw [jb hNN hMM, hNN]; rfl)
  | (rw [da hSS, hSS]; rfl)
  | (by_cases hz : (T.getD p nd0).2.2.1.length = 0
     · have hSS := (d4 (m := m) (f := f) hyes hx1).trans (if_pos hz)
       rw [da hSS, hSS]
       show AV.tup [.one (.int .i64 ((p : Int) + 1)), .one (.bool (decide (((T.getD p nd0).2.2.1.length : Int) = 0)))] = _
       rw [decide_eq_true (by omega)]; rfl
     · have hNN := (d4 (m := m) (f := f) hyes hx1).trans (if_neg hz)
       rw [gl hNN ⟨hyes, hx1⟩, hNN]
       show AV.tup [.one (.int .i64 ((p : Int) + 1)), .one (.bool (decide (((T.getD p nd0).2.2.1.length : Int) = 0)))] = _
       rw [decide_eq_false (by omega)]; rfl)
 (try simp only [zB, reduceCtorEq] at hc6)
 have hyes : p < T.length ∧ (T.getD p nd0).1 = ini ∧ cur.Nodup := ⟨by omega, hc6.1.2, nA.1 (by omega)⟩
 refine ay ?_
 apply k2; clear k2; refine kp [0, 1, 2, 3, 5, 7, 8, 9, 43] ?_
 refine ai fun _ k8 => ?_
 refine ak hP hN rfl ?_
 iterate 7 (refine aj rfl fun _ k0 => ?_; simp only [zO, zT, acs, reduceCtorEq, aa, V, ad, ag, af, ae, ah, aw, aB, az, aL]; (repeat refine an ?_); (try refine .inl ?_); apply k0; clear k0; simp only [zP, V])
 refine am ?_
 apply k8; clear k8; refine kp [0, 1, 2, 3, 5, 7, 8, 9, 10, 43] ?_
 refine ai fun _ k9 => ?_
 refine ai fun _ k10 => ?_
 refine ak hP hN rfl ?_
 iterate 3 (refine aj rfl fun _ k0 => ?_; simp only [zO, zT, acs, reduceCtorEq, aa, V, ad, ag, af, ae, ah, aw, aB, az, aL]; (repeat refine an ?_); (try refine .inl ?_); apply k0; clear k0; simp only [zP, V])
 refine am ?_
 apply k10; clear k10; refine kp [0, 1, 2, 3, 5, 7, 8, 9, 10, 43, 51] ?_
 refine cd (fun hc11 => ?_) (fun hc11 => ?_)
 ·(try simp only [zB, reduceCtorEq] at hc11)
  have hx1 : (T.getD p nd0).2.1 = -1 := hc11
  refine ai fun _ k12 => ?_
  refine bn hP hN Try.mixed rfl ?_
  iterate 8 (refine aj rfl fun _ k0 => ?_; simp only [zO, zT, acs, reduceCtorEq, aa, V, ad, ag, af, ae, ah, aw, aB, az, aL]; (repeat refine an ?_); (try refine .inl ?_); apply k0; clear k0; simp only [zP, V])
  refine am ?_
  refine ⟨by kernel_rfl, ?_⟩
  apply k12; clear k12; refine kp [0, 1, 2, 3, 5, 7, 8, 9, 10, 43, 51] ?_
  refine aF ?_
  refine ⟨by first | exact .inl rfl | exact .inr rfl, _, rfl, _, _, rfl, ?_, ?_⟩ <;> simp only [fzV, fz1, fzC, aH, bh, zP, aa, V, ah, aw, aB, az, aL]
  all_goals first
  | (rw [jb hNN hMM, hNN]; rfl)
  | (rw [da hSS, hSS]; rfl)
  | (by_cases hz : (T.getD p nd0).2.2.1.length = 0
     · have hSS := (d4 (m := m) (f := f) hyes hx1).trans (if_pos hz)
       rw [da hSS, hSS]
       show AV.tup [.one (.int .i64 ((p : Int) + 1)), .one (.bool (decide (((T.getD p nd0).2.2.1.length : Int) = 0)))] = _
       rw [decide_eq_true (by omega)]; rfl
     · have hNN := (d4 (m := m) (f := f) hyes hx1).trans (if_neg hz)
       rw [gl hNN ⟨hyes, hx1⟩, hNN]
       show AV.tup [.one (.int .i64 ((p : Int) + 1)), .one (.bool (decide (((T.getD p nd0).2.2.1.length : Int) = 0)))] = _
       rw [decide_eq_false (by omega)]; rfl)
 (try simp only [zB, reduceCtorEq] at hc11)
 have hx1 : ¬ (T.getD p nd0).2.1 = -1 := hc11
 have hMM : ¬ ((p < T.length ∧ (T.getD p nd0).1 = ini ∧ cur.Nodup) ∧ (T.getD p nd0).2.1 = -1) := fun h => hx1 h.2
 refine ay ?_
 apply k9; clear k9; refine kp [0, 1, 2, 3, 5, 7, 8, 9, 10, 43, 51] ?_
 refine ai fun _ k13 => ?_
 refine ai fun _ k14 => ?_
 refine bn hP hN Try.mixed rfl ?_
 iterate 4 (refine aj rfl fun _ k0 => ?_; simp only [zO, zT, acs, reduceCtorEq, aa, V, ad, ag, af, ae, ah, aw, aB, az, aL]; (repeat refine an ?_); (try refine .inl ?_); apply k0; clear k0; simp only [zP, V])
 refine' aO (want := false) 8 rfl (m := 61) (by simp only [zP, aa, V]; exact rfl) (by kernel_rfl) rfl rfl rfl rfl rfl (fun hg15 => ?a15) ?b15 ?c15
 case a15 =>
  have hq15 := hg15; (try simp only [zB, reduceCtorEq] at hg15); simp only [zE]
  iterate 8 (refine bg rfl fun _ k0 => ?_; simp only [zO, zT, acs, reduceCtorEq, aa, V, ad, ag, af, ae, ah, aw, aB, az, aL]; (repeat refine an ?_); (try refine .inl ?_); apply k0; clear k0; simp only [zP, V])
  (refine aj rfl fun _ k0 => ?_; simp only [zO, zT, acs, reduceCtorEq, aa, V, ad, ag, af, ae, ah, aw, aB, az, aL]; (repeat refine an ?_); (try refine .inl ?_); apply k0; clear k0; simp only [zP, V])
  refine am ?_
  refine ⟨by simp only [zP, aa, V]; exact rfl, rfl, ?_, rfl⟩; (repeat refine aP rfl ?_); exact bo (by exact rfl) hq15
 case b15 => exact cr
 simp only [bb, aT]
 refine am ?_
 refine ⟨by kernel_rfl, ?_⟩
 apply k14; clear k14; refine kp [0, 1, 2, 3, 5, 7, 8, 9, 10, 43, 51, 70] ?_
 refine cd (fun hc16 => ?_) (fun hc16 => ?_)
 ·(try simp only [zB, reduceCtorEq] at hc16)
  have hxb : ¬ (0 ≤ (T.getD p nd0).2.1 ∧ (T.getD p nd0).2.1 < m.inp ∧ (aC (ouL m cur (T.getD p nd0).2.1)).length = (T.getD p nd0).2.2.1.length) := by
    have h8 : (T.getD p nd0).2.1 < 0 ∨ m.inp ≤ (T.getD p nd0).2.1 := hc16
    omega
  have hNN := jG (f := f) (p := p) (ini := ini) hx1 hxb
  refine ai fun _ k17 => ?_
  refine ak hP hN rfl ?_
  iterate 2 (refine aj rfl fun _ k0 => ?_; simp only [zO, zT, acs, reduceCtorEq, aa, V, ad, ag, af, ae, ah, aw, aB, az, aL]; (repeat refine an ?_); (try refine .inl ?_); apply k0; clear k0; simp only [zP, V])
  refine am ?_
  apply k17; clear k17; refine kp [0, 1, 2, 3, 5, 7, 8, 9, 10, 43, 51, 70] ?_
  refine aF ?_
  refine ⟨by first | exact .inl rfl | exact .inr rfl, _, rfl, _, _, rfl, ?_, ?_⟩ <;> simp only [fzV, fz1, fzC, aH, bh, zP, aa, V, ah, aw, aB, az, aL]
  all_goals first
  | (rw [jb hNN hMM, hNN]; rfl)
  | (rw [da hSS, hSS]; rfl)
  | (by_cases hz : (T.getD p nd0).2.2.1.length = 0
     · have hSS := (d4 (m := m) (f := f) hyes hx1).trans (if_pos hz)
       rw [da hSS, hSS]
       show AV.tup [.one (.int .i64 ((p : Int) + 1)), .one (.bool (decide (((T.getD p nd0).2.2.1.length : Int) = 0)))] = _
       rw [decide_eq_true (by omega)]; rfl
     · have hNN := (d4 (m := m) (f := f) hyes hx1).trans (if_neg hz)
       rw [gl hNN ⟨hyes, hx1⟩, hNN]
       show AV.tup [.one (.int .i64 ((p : Int) + 1)), .one (.bool (decide (((T.getD p nd0).2.2.1.length : Int) = 0)))] = _
       rw [decide_eq_false (by omega)]; rfl)
 (try simp only [zB, reduceCtorEq] at hc16)
 have hxa : 0 ≤ (T.getD p nd0).2.1 ∧ (T.getD p nd0).2.1 < m.inp := hc16
 refine ay ?_
 apply k13; clear k13; refine kp [0, 1, 2, 3, 5, 7, 8, 9, 10, 43, 51, 70] ?_
 refine ai fun _ k18 => ?_
 refine ak hP hN rfl ?_
 iterate 4 (refine aj rfl fun _ k0 => ?_; simp only [zO, zT, acs, reduceCtorEq, aa, V, ad, ag, af, ae, ah, aw, aB, az, aL]; (repeat refine an ?_); (try refine .inl ?_); apply k0; clear k0; simp only [zP, V])
 refine aj rfl fun _ k0 => ?_
 refine aK (h := pf m x ini cur (T.getD p nd0).2.1 hm hs hxa h0 hl hil _ 0 rfl) rfl rfl (by first | exact rfl | (simp only [ev, zP, aa, V]; exact rfl)) (by simp only [zV, acs, reduceCtorEq, aa, V, ad, ag, af, ae, ah, aw, aB, az, aL]) ?_
 apply k0; clear k0; simp only [zP, V]
 iterate 5 (refine aj rfl fun _ k0 => ?_; simp only [zO, zT, acs, reduceCtorEq, aa, V, ad, ag, af, ae, ah, aw, aB, az, aL]; (repeat refine an ?_); (try refine .inl ?_); apply k0; clear k0; simp only [zP, V])
 refine am ?_
 apply k18; clear k18; refine kp [0, 1, 2, 3, 5, 7, 8, 9, 10, 11, 12, 43, 51, 70] ?_
 refine ai fun _ k19 => ?_
 refine ai fun _ k20 => ?_
 refine ak hP hN rfl ?_
 iterate 6 (refine aj rfl fun _ k0 => ?_; simp only [zO, zT, acs, reduceCtorEq, aa, V, ad, ag, af, ae, ah, aw, aB, az, aL]; (repeat refine an ?_); (try refine .inl ?_); apply k0; clear k0; simp only [zP, V])
 refine am ?_
 apply k20; clear k20; refine kp [0, 1, 2, 3, 5, 7, 8, 9, 10, 11, 12, 43, 51, 70, 84] ?_
 refine cd (fun hc21 => ?_) (fun hc21 => ?_)
 ·(try simp only [zB, reduceCtorEq] at hc21)
  have hxb : ¬ (0 ≤ (T.getD p nd0).2.1 ∧ (T.getD p nd0).2.1 < m.inp ∧ (aC (ouL m cur (T.getD p nd0).2.1)).length = (T.getD p nd0).2.2.1.length) := by
    have h8 : ¬ (((aC (ouL m cur (T.getD p nd0).2.1)).length : Int) = ((T.getD p nd0).2.2.1.length : Int)) := hc21
    omega
  have hNN := jG (f := f) (p := p) (ini := ini) hx1 hxb
  refine ai fun _ k22 => ?_
  refine ak hP hN rfl ?_
  iterate 2 (refine aj rfl fun _ k0 => ?_; simp only [zO, zT, acs, reduceCtorEq, aa, V, ad, ag, af, ae, ah, aw, aB, az, aL]; (repeat refine an ?_); (try refine .inl ?_); apply k0; clear k0; simp only [zP, V])
  refine am ?_
  apply k22; clear k22; refine kp [0, 1, 2, 3, 5, 7, 8, 9, 10, 11, 12, 43, 51, 70, 84] ?_
  refine aF ?_
  refine ⟨by first | exact .inl rfl | exact .inr rfl, _, rfl, _, _, rfl, ?_, ?_⟩ <;> simp only [fzV, fz1, fzC, aH, bh, zP, aa, V, ah, aw, aB, az, aL]
  all_goals first
  | (rw [jb hNN hMM, hNN]; rfl)
  | (rw [da hSS, hSS]; rfl)
  | (by_cases hz : (T.getD p nd0).2.2.1.length = 0
     · have hSS := (d4 (m := m) (f := f) hyes hx1).trans (if_pos hz)
       rw [da hSS, hSS]
       show AV.tup [.one (.int .i64 ((p : Int) + 1)), .one (.bool (decide (((T.getD p nd0).2.2.1.length : Int) = 0)))] = _
       rw [decide_eq_true (by omega)]; rfl
     · have hNN := (d4 (m := m) (f := f) hyes hx1).trans (if_neg hz)
       rw [gl hNN ⟨hyes, hx1⟩, hNN]
       show AV.tup [.one (.int .i64 ((p : Int) + 1)), .one (.bool (decide (((T.getD p nd0).2.2.1.length : Int) = 0)))] = _
       rw [decide_eq_false (by omega)]; rfl)
 (try simp only [zB, reduceCtorEq] at hc21)
 have hxl : (aC (ouL m cur (T.getD p nd0).2.1)).length = (T.getD p nd0).2.2.1.length := by
   have h8 : ((aC (ouL m cur (T.getD p nd0).2.1)).length : Int) = ((T.getD p nd0).2.2.1.length : Int) := hc21
   omega
 have hkl := fP (ouL m cur (T.getD p nd0).2.1)
 have hol : (ouL m cur (T.getD p nd0).2.1).length = cur.length := aD ..
 have hrf := kq (f := f) hyes hx1 ⟨hxa.1, hxa.2, hxl⟩
 refine ay ?_
 apply k19; clear k19; refine kp [0, 1, 2, 3, 5, 7, 8, 9, 10, 11, 12, 43, 51, 70, 84] ?_
 refine ai fun _ k23 => ?_
 refine ak hP hN rfl ?_
 iterate 3 (refine aj rfl fun _ k0 => ?_; simp only [zO, zT, acs, reduceCtorEq, aa, V, ad, ag, af, ae, ah, aw, aB, az, aL]; (repeat refine an ?_); (try refine .inl ?_); apply k0; clear k0; simp only [zP, V])
 refine am ?_
 apply k23; clear k23; refine kp [0, 1, 2, 3, 5, 7, 8, 9, 10, 11, 12, 13, 43, 51, 70, 84] ?_
 refine ai fun _ k24 => ?_
 refine ai fun _ k25 => ?_
 refine ak hP hN rfl ?_
 iterate 4 (refine aj rfl fun _ k0 => ?_; simp only [zO, zT, acs, reduceCtorEq, aa, V, ad, ag, af, ae, ah, aw, aB, az, aL]; (repeat refine an ?_); (try refine .inl ?_); apply k0; clear k0; simp only [zP, V])
 refine am ?_
 apply k25; clear k25; refine kp [0, 1, 2, 3, 5, 7, 8, 9, 10, 11, 12, 13, 43, 51, 70, 84, 88, 89, 90] ?_
 refine aA ?_
 refine aY (fun n26 s26 => ∃ (i e : Nat), (i ≤ (T.getD p nd0).2.2.1.length) ∧ ((List.range i).foldl (fh m (rtF m T f) ini cur (T.getD p nd0)) (some (p + 1)) = some e) ∧ (p + 1 ≤ e ∧ e ≤ T.length) ∧ n26 = (T.getD p nd0).2.2.1.length - i ∧ s26 = { env := [(0, .one (.ptr 0 0 0 0)), (5, .one (.ptr 1 0 0 0)), (8, .one (.int .i64 0)), (9, .one (.bool false)), (11, .one (.list (.int .i64) (aC (ouL m cur (T.getD p nd0).2.1)))), (12, .one (.list (.pair (.list (.int .i64)) (.pair (.list (.int .i64)) .unit)) (lV m ini cur (T.getD p nd0).2.1 (aC (ouL m cur (T.getD p nd0).2.1))))), (13, .one (.int .i64 (e : Int))), (88, .one (.list kdT (T.getD p nd0).2.2.1)), (89, .one (.int .i64 ((T.getD p nd0).2.2.1.length : Int))), (90, .one (.int .i64 (i : Int)))], L := [.vars 62 [.int .i64 m.inp, .int .i64 m.st, .list (.list (.int .i64)) m.nx, .list (.list (.int .i64)) m.ot, .exact x], .vars 29 [.list ndT T], .vars 66 [.list (.int .i64) ini, .list (.int .i64) cur], .vars 52 [.list (.int .i64) (T.getD p nd0).1, .int .i64 (T.getD p nd0).2.1, .list kdT (T.getD p nd0).2.2.1]] }) ?_ ?_
 ·exact ⟨_, _, ax [0, 5, 8, 9, 11, 12, 13, 88, 89, 90], 0, p + 1, Nat.zero_le _, rfl, ⟨by omega, by omega⟩, rfl, rfl⟩
 rintro n26 s26 ⟨i, e, hi, hD, he, rfl, rfl⟩
 refine ai fun _ k27 => ?_
 refine ak hP hN rfl ?_
 (refine aj rfl fun _ k0 => ?_; simp only [zO, zT, acs, reduceCtorEq, aa, V, ad, ag, af, ae, ah, aw, aB, az, aL]; (repeat refine an ?_); (try refine .inl ?_); apply k0; clear k0; simp only [zP, V])
 refine am ?_
 apply k27; clear k27; refine kp [0, 5, 8, 9, 11, 12, 13, 88, 89, 90, 91] ?_
 refine ai fun _ k28 => ?_
 refine cd (fun hc29 => ?_) (fun hc29 => ?_)
 ·(try simp only [zB, reduceCtorEq] at hc29)
  have hil9 : (i : Int) < ((T.getD p nd0).2.2.1.length : Int) := hc29
  refine ay ?_
  apply k28; clear k28; refine kp [0, 5, 8, 9, 11, 12, 13, 88, 89, 90, 91] ?_
  refine ai fun _ k30 => ?_
  refine aA ?_
  refine ai fun _ k31 => ?_
  refine ak hP hN rfl ?_
  iterate 6 (refine aj rfl fun _ k0 => ?_; simp only [zO, zT, acs, reduceCtorEq, aa, V, ad, ag, af, ae, ah, aw, aB, az, aL]; (repeat refine an ?_); (try refine .inl ?_); apply k0; clear k0; simp only [zP, V])
  refine am ?_
  apply k31; clear k31; refine kp [0, 5, 8, 9, 11, 12, 13, 14, 15, 88, 89, 90, 91] ?_
  refine ai fun _ k32 => ?_
  refine ai fun _ k33 => ?_
  refine bn hP hN Try.mixed rfl ?_
  iterate 8 (refine aj rfl fun _ k0 => ?_; simp only [zO, zT, acs, reduceCtorEq, aa, V, ad, ag, af, ae, ah, aw, aB, az, aL]; (repeat refine an ?_); (try refine .inl ?_); apply k0; clear k0; simp only [zP, V])
  refine' aO (want := false) 4 rfl (m := 102) (by simp only [zP, aa, V]; exact rfl) (by kernel_rfl) rfl rfl rfl rfl rfl (fun hg34 => ?a34) ?b34 ?c34
  case a34 =>
   have hq34 := hg34; (try simp only [zB, reduceCtorEq] at hg34); simp only [zE]
   iterate 4 (refine bg rfl fun _ k0 => ?_; simp only [zO, zT, acs, reduceCtorEq, aa, V, ad, ag, af, ae, ah, aw, aB, az, aL]; (repeat refine an ?_); (try refine .inl ?_); apply k0; clear k0; simp only [zP, V])
   (refine aj rfl fun _ k0 => ?_; simp only [zO, zT, acs, reduceCtorEq, aa, V, ad, ag, af, ae, ah, aw, aB, az, aL]; (repeat refine an ?_); (try refine .inl ?_); apply k0; clear k0; simp only [zP, V])
   refine am ?_
   refine ⟨by simp only [zP, aa, V]; exact rfl, rfl, ?_, rfl⟩; (repeat refine aP rfl ?_); exact bo (by exact rfl) hq34
  case b34 => exact cr
  simp only [bb, aT]
  refine am ?_
  refine ⟨by kernel_rfl, ?_⟩
  apply k33; clear k33; refine kp [0, 5, 8, 9, 11, 12, 13, 14, 15, 88, 89, 90, 91, 107] ?_
  refine cd (fun hc35 => ?_) (fun hc35 => ?_)
  ·(try simp only [zB, reduceCtorEq] at hc35)
   have hNN : rtF m T (f + 1) p ini cur = none := hrf.trans (jU (by omega) hD (p5 (fun h => Or.elim hc35 (fun h9 => h9 h.1) (fun h9 => h9 h.2))))
   refine ai fun _ k36 => ?_
   refine ak hP hN rfl ?_
   iterate 2 (refine aj rfl fun _ k0 => ?_; simp only [zO, zT, acs, reduceCtorEq, aa, V, ad, ag, af, ae, ah, aw, aB, az, aL]; (repeat refine an ?_); (try refine .inl ?_); apply k0; clear k0; simp only [zP, V])
   refine am ?_
   apply k36; clear k36; refine kp [0, 5, 8, 9, 11, 12, 13, 14, 15, 88, 89, 90, 91, 107] ?_
   refine aF ?_
   refine ⟨by first | exact .inl rfl | exact .inr rfl, _, rfl, _, _, rfl, ?_, ?_⟩ <;> simp only [fzV, fz1, fzC, aH, bh, zP, aa, V, ah, aw, aB, az, aL]
   all_goals first
   | (rw [jb hNN hMM, hNN]; rfl)
   | (rw [da hSS, hSS]; rfl)
   | (by_cases hz : (T.getD p nd0).2.2.1.length = 0
      · have hSS := (d4 (m := m) (f := f) hyes hx1).trans (if_pos hz)
        rw [da hSS, hSS]
        show AV.tup [.one (.int .i64 ((p : Int) + 1)), .one (.bool (decide (((T.getD p nd0).2.2.1.length : Int) = 0)))] = _
        rw [decide_eq_true (by omega)]; rfl
      · have hNN := (d4 (m := m) (f := f) hyes hx1).trans (if_neg hz)
        rw [gl hNN ⟨hyes, hx1⟩, hNN]
        show AV.tup [.one (.int .i64 ((p : Int) + 1)), .one (.bool (decide (((T.getD p nd0).2.2.1.length : Int) = 0)))] = _
        rw [decide_eq_false (by omega)]; rfl)
  (try simp only [zB, reduceCtorEq] at hc35)
  have hkk := kb (m := m) (rec := rtF m T f) (ini := ini) (cur := cur) hc35
  refine ay ?_
  apply k32; clear k32; refine kp [0, 5, 8, 9, 11, 12, 13, 14, 15, 88, 89, 90, 91, 107] ?_
  refine ai fun _ k37 => ?_
  have hgi := rZ (m := m) (ini := ini) (cur := cur) (a := (T.getD p nd0).2.1) (ks := (aC (ouL m cur (T.getD p nd0).2.1))) (i := i) (by omega)
  have hin : ((aC (ouL m cur (T.getD p nd0).2.1)).getD i 0) ∈ (aC (ouL m cur (T.getD p nd0).2.1)) := bl (by omega)
  have hq1 := mQ hm (o := ((aC (ouL m cur (T.getD p nd0).2.1)).getD i 0)) hxa hs
  have hq2 := hU m ini cur (T.getD p nd0).2.1 ((aC (ouL m cur (T.getD p nd0).2.1)).getD i 0) cur.length
  have hq3 := kd hin
  have hq4 : (bB m cur (T.getD p nd0).2.1 cur.length ((aC (ouL m cur (T.getD p nd0).2.1)).getD i 0)).length ≤ 1000 := Nat.le_trans lQ hl
  refine bn hP hN Try.mixed rfl ?_
  iterate 7 (refine aj rfl fun _ k0 => ?_; simp only [zO, zT, acs, reduceCtorEq, aa, V, ad, ag, af, ae, ah, aw, aB, az, aL, hgi]; (repeat refine an ?_); (try refine .inl ?_); apply k0; clear k0; simp only [zP, V])
  refine aj rfl fun _ k0 => ?_
  refine aK (h := IH e (bV m ini cur (T.getD p nd0).2.1 cur.length ((aC (ouL m cur (T.getD p nd0).2.1)).getD i 0)) (bB m cur (T.getD p nd0).2.1 cur.length ((aC (ouL m cur (T.getD p nd0).2.1)).getD i 0)) x (by omega) (by omega) hq1 hq2 hq3 hq4 _ 0 rfl) rfl rfl (by first | exact rfl | (simp only [ev, zP, aa, V]; exact rfl)) (by simp only [zV, acs, reduceCtorEq, aa, V, ad, ag, af, ae, ah, aw, aB, az, aL, hgi]) ?_
  apply k0; clear k0; simp only [zP, V]
  iterate 5 (refine aj rfl fun _ k0 => ?_; simp only [zO, zT, acs, reduceCtorEq, aa, V, ad, ag, af, ae, ah, aw, aB, az, aL, hgi]; (repeat refine an ?_); (try refine .inl ?_); apply k0; clear k0; simp only [zP, V])
  refine am ?_
  refine ⟨by kernel_rfl, ?_⟩
  apply k37; clear k37; refine kp [0, 5, 8, 9, 11, 12, 13, 14, 15, 16, 17, 88, 89, 90, 91, 107] ?_
  refine ai fun _ k38 => ?_
  refine ai fun _ k39 => ?_
  refine ak hP hN rfl ?_
  iterate 2 (refine aj rfl fun _ k0 => ?_; simp only [zO, zT, acs, reduceCtorEq, aa, V, ad, ag, af, ae, ah, aw, aB, az, aL]; (repeat refine an ?_); (try refine .inl ?_); apply k0; clear k0; simp only [zP, V])
  refine am ?_
  apply k39; clear k39; refine kp [0, 5, 8, 9, 11, 12, 13, 14, 15, 16, 17, 88, 89, 90, 91, 107, 120] ?_
  refine cd (fun hc40 => ?_) (fun hc40 => ?_)
  ·(try simp only [zB, reduceCtorEq] at hc40)
   have hno9 : rtF m T f e (bV m ini cur (T.getD p nd0).2.1 cur.length ((aC (ouL m cur (T.getD p nd0).2.1)).getD i 0)) (bB m cur (T.getD p nd0).2.1 cur.length ((aC (ouL m cur (T.getD p nd0).2.1)).getD i 0)) = none := by
     cases hr : rtF m T f e (bV m ini cur (T.getD p nd0).2.1 cur.length ((aC (ouL m cur (T.getD p nd0).2.1)).getD i 0)) (bB m cur (T.getD p nd0).2.1 cur.length ((aC (ouL m cur (T.getD p nd0).2.1)).getD i 0)) with
     | none => rfl
     | some n => rw [hr] at hc40; cases hc40
   have hNN : rtF m T (f + 1) p ini cur = none := hrf.trans (jU (by omega) hD (hkk.trans hno9))
   refine ai fun _ k41 => ?_
   refine ak hP hN rfl ?_
   iterate 2 (refine aj rfl fun _ k0 => ?_; simp only [zO, zT, acs, reduceCtorEq, aa, V, ad, ag, af, ae, ah, aw, aB, az, aL]; (repeat refine an ?_); (try refine .inl ?_); apply k0; clear k0; simp only [zP, V])
   refine am ?_
   apply k41; clear k41; refine kp [0, 5, 8, 9, 11, 12, 13, 14, 15, 16, 17, 88, 89, 90, 91, 107, 120] ?_
   refine aF ?_
   refine ⟨by first | exact .inl rfl | exact .inr rfl, _, rfl, _, _, rfl, ?_, ?_⟩ <;> simp only [fzV, fz1, fzC, aH, bh, zP, aa, V, ah, aw, aB, az, aL]
   all_goals first
   | (rw [jb hNN hMM, hNN]; rfl)
   | (rw [da hSS, hSS]; rfl)
   | (by_cases hz : (T.getD p nd0).2.2.1.length = 0
      · have hSS := (d4 (m := m) (f := f) hyes hx1).trans (if_pos hz)
        rw [da hSS, hSS]
        show AV.tup [.one (.int .i64 ((p : Int) + 1)), .one (.bool (decide (((T.getD p nd0).2.2.1.length : Int) = 0)))] = _
        rw [decide_eq_true (by omega)]; rfl
      · have hNN := (d4 (m := m) (f := f) hyes hx1).trans (if_neg hz)
        rw [gl hNN ⟨hyes, hx1⟩, hNN]
        show AV.tup [.one (.int .i64 ((p : Int) + 1)), .one (.bool (decide (((T.getD p nd0).2.2.1.length : Int) = 0)))] = _
        rw [decide_eq_false (by omega)]; rfl)
  (try simp only [zB, reduceCtorEq] at hc40)
  obtain ⟨e2, he2⟩ : ∃ e2, rtF m T f e (bV m ini cur (T.getD p nd0).2.1 cur.length ((aC (ouL m cur (T.getD p nd0).2.1)).getD i 0)) (bB m cur (T.getD p nd0).2.1 cur.length ((aC (ouL m cur (T.getD p nd0).2.1)).getD i 0)) = some e2 := Option.isSome_iff_exists.1 hc40
  have he3 := iQ he2
  refine ay ?_
  apply k38; clear k38; refine kp [0, 5, 8, 9, 11, 12, 13, 14, 15, 16, 17, 88, 89, 90, 91, 107, 120] ?_
  rw [da he2]
  refine ak hP hN rfl ?_
  iterate 2 (refine aj rfl fun _ k0 => ?_; simp only [zO, zT, acs, reduceCtorEq, aa, V, ad, ag, af, ae, ah, aw, aB, az, aL]; (repeat refine an ?_); (try refine .inl ?_); apply k0; clear k0; simp only [zP, V])
  refine am ?_
  apply k30; clear k30; refine kp [0, 5, 8, 9, 11, 12, 13, 14, 15, 16, 17, 88, 89, 90, 91, 107, 120] ?_
  refine dh [0, 5, 8, 9, 11, 12, 13, 88, 89, 90] ?_; simp only [cF, lkp, zE, reduceCtorEq, aa]
  refine eg (L1 := [_, _, _, _]) rfl (by rw [hB]; simp) rfl rfl ?_
  refine ak hP hN rfl ?_
  iterate 2 (refine aj rfl fun _ k0 => ?_; simp only [zO, zT, acs, reduceCtorEq, aa, V, ad, ag, af, ae, ah, aw, aB, az, aL]; (repeat refine an ?_); (try refine .inl ?_); apply k0; clear k0; simp only [zP, V])
  refine am ?_
  refine ⟨_, _, ?_, ax [0, 5, 8, 9, 11, 12, 13, 88, 89, 90], i + 1, e2, by omega, lh hD (hkk.trans he2), ⟨by omega, by omega⟩, rfl, rfl⟩
  omega
 (try simp only [zB, reduceCtorEq] at hc29)
 have hil9 : ((T.getD p nd0).2.2.1.length : Int) ≤ (i : Int) := hc29
 have hie : (T.getD p nd0).2.2.1.length = i := by omega
 have hSS : rtF m T (f + 1) p ini cur = some e := by rw [hrf, hie]; exact hD
 refine aV ?_
 apply k24; clear k24; refine kp [0, 5, 8, 9, 11, 12, 13, 88, 89, 90, 91] ?_
 refine ai fun _ k42 => ?_
 refine ak hP hN rfl ?_
 iterate 3 (refine aj rfl fun _ k0 => ?_; simp only [zO, zT, acs, reduceCtorEq, aa, V, ad, ag, af, ae, ah, aw, aB, az, aL]; (repeat refine an ?_); (try refine .inl ?_); apply k0; clear k0; simp only [zP, V])
 refine am ?_
 apply k42; clear k42; refine kp [0, 5, 8, 9, 11, 12, 13, 88, 89, 90, 91] ?_
 refine aF ?_
 refine ⟨by first | exact .inl rfl | exact .inr rfl, _, rfl, _, _, rfl, ?_, ?_⟩ <;> simp only [fzV, fz1, fzC, aH, bh, zP, aa, V, ah, aw, aB, az, aL]
 all_goals first
 | (rw [jb hNN hMM, hNN]; rfl)
 | (rw [da hSS, hSS]; rfl)
 | (by_cases hz : (T.getD p nd0).2.2.1.length = 0
    · have hSS := (d4 (m := m) (f := f) hyes hx1).trans (if_pos hz)
      rw [da hSS, hSS]
      show AV.tup [.one (.int .i64 ((p : Int) + 1)), .one (.bool (decide (((T.getD p nd0).2.2.1.length : Int) = 0)))] = _
      rw [decide_eq_true (by omega)]; rfl
    · have hNN := (d4 (m := m) (f := f) hyes hx1).trans (if_neg hz)
      rw [gl hNN ⟨hyes, hx1⟩, hNN]
      show AV.tup [.one (.int .i64 ((p : Int) + 1)), .one (.bool (decide (((T.getD p nd0).2.2.1.length : Int) = 0)))] = _
      rw [decide_eq_false (by omega)]; rfl)
theorem uq (m : Mly) (hm : MOK m) (T : List b7) (hT : T.length ≤ 4096) : ∀ (f p : Nat) (ini cur : List Int) (x : Value), T.length + 1 ≤ f + p → p ≤ T.length → cK m cur → ini.length = cur.length → 0 < cur.length → cur.length ≤ 1000 → ∀ (L0 : List AO) (m0 : Nat) (hm0 : L0[m0]? = some (.vars 62 [.int .i64 m.inp, .int .i64 m.st, .list (.list (.int .i64)) m.nx, .list (.list (.int .i64)) m.ot, .exact x])), ep Try.prog L0 37 (List.map (mv1 m0) [.one (.ptr 0 0 0 0), .agg [.list ndT T], .one (.int .i64 (p : Int)), .agg [.list (.int .i64) ini, .list (.int .i64) cur]]) { av := .tup [.one (.int .i64 (rtP m T f p ini cur)), .one (.bool (rtF m T f p ini cur).isSome)], upd := [(m0, .vars 62 [.int .i64 m.inp, .int .i64 m.st, .list (.list (.int .i64)) m.nx, .list (.list (.int .i64)) m.ot, .exact x])], fp := [m0] }
  | 0, p, ini, cur, x, hf, hp, _, _, _, _ => by omega
  | f + 1, p, ini, cur, x, hf, hp, hs, hil, h0, hl => y7 f m hm T hT (uq m hm T hT f) p ini cur x hf hp hs hil h0 hl
theorem uy (m : Mly) (T : List b7) : bP Try.prog 16 [m.av, .agg [.list ndT T]] (.one (.int .i64 (eK m T))) := by
 refine aS Try.func16 rfl (by kernel_rfl) (Nat.le_of_ble_eq_true rfl) rfl fun C hP hN hB => ?_
 replace hN : C.N = 41 := hN
 simp only [bf, V]
 refine ai fun _ k1 => ?_
 refine ak hP hN rfl ?_
 iterate 3 (refine aj rfl fun _ k0 => ?_; simp only [zO, zT, acs, reduceCtorEq, aa, V, ad, ag, af, ae, Mly.av, aX]; (repeat refine an ?_); (try refine .inl ?_); apply k0; clear k0; simp only [zP, V])
 refine am ?_
 apply k1; clear k1; refine kp [0, 1, 2, 3, 4] ?_
 refine ai fun _ k2 => ?_
 refine ai fun _ k3 => ?_
 refine ak hP hN rfl ?_
 (refine aj rfl fun _ k0 => ?_; simp only [zO, zT, acs, reduceCtorEq, aa, V, ad, ag, af, ae, Mly.av, aX]; (repeat refine an ?_); (try refine .inl ?_); apply k0; clear k0; simp only [zP, V])
 refine aj rfl fun _ k0 => ?_
 refine aK (h := aE (qV m)) rfl rfl (by first | exact rfl | (simp only [ev, zP, aa, V]; exact rfl)) (by simp only [zV, acs, reduceCtorEq, aa, V, ad, ag, af, ae, Mly.av, aX]) ?_
 apply k0; clear k0; simp only [zP, V]
 (refine aj rfl fun _ k0 => ?_; simp only [zO, zT, acs, reduceCtorEq, aa, V, ad, ag, af, ae, Mly.av, aX]; (repeat refine an ?_); (try refine .inl ?_); apply k0; clear k0; simp only [zP, V])
 refine am ?_
 apply k3; clear k3; refine kp [0, 1, 2, 3, 4, 5] ?_
 refine ai fun _ k4 => ?_
 refine ak hP hN rfl ?_
 iterate 2 (refine aj rfl fun _ k0 => ?_; simp only [zO, zT, acs, reduceCtorEq, aa, V, ad, ag, af, ae, Mly.av, aX]; (repeat refine an ?_); (try refine .inl ?_); apply k0; clear k0; simp only [zP, V])
 refine am ?_
 apply k4; clear k4; refine kp [0, 1, 2, 3, 4, 5, 12] ?_
 refine cd (fun hc5 => ?_) (fun hc5 => ?_)
 ·(try simp only [zB, reduceCtorEq] at hc5)
  have hE : ¬ dR m = 0 := hc5
  refine ai fun _ k6 => ?_
  refine ak hP hN rfl ?_
  iterate 2 (refine aj rfl fun _ k0 => ?_; simp only [zO, zT, acs, reduceCtorEq, aa, V, ad, ag, af, ae, Mly.av, aX]; (repeat refine an ?_); (try refine .inl ?_); apply k0; clear k0; simp only [zP, V])
  refine am ?_
  apply k6; clear k6; refine kp [0, 1, 2, 3, 4, 5, 12] ?_
  refine aF ?_
  refine ⟨nr, _, rfl, ?_⟩; simp only [zF, zP, aa, V, Mly.av, aX]
  refine VLE.of_eq ?_
  refine congrArg (fun n => AV.one (AC.int IntKind.i64 n)) ?_
  unfold eK
  symm
  first
  | (rw [if_pos hE]; done)
  | (rw [if_neg (fun h => h hE), if_pos hR]; done)
  | (rw [if_neg (fun h => h hE), if_neg hR]; done)
 (try simp only [zB, reduceCtorEq] at hc5)
 have hE : dR m = 0 := by simpa using hc5
 have hm := eO (vD hE)
 have hn1 := hm.n1
 have hn2 := hm.n2
 refine ay ?_
 apply k2; clear k2; refine kp [0, 1, 2, 3, 4, 5, 12] ?_
 refine ai fun _ k7 => ?_
 refine ai fun _ k8 => ?_
 refine ak hP hN rfl ?_
 iterate 4 (refine aj rfl fun _ k0 => ?_; simp only [zO, zT, acs, reduceCtorEq, aa, V, ad, ag, af, ae, Mly.av, aX]; (repeat refine an ?_); (try refine .inl ?_); apply k0; clear k0; simp only [zP, V])
 refine am ?_
 apply k8; clear k8; refine kp [0, 1, 2, 3, 4, 5, 12, 17] ?_
 refine cd (fun hc9 => ?_) (fun hc9 => ?_)
 ·(try simp only [zB, reduceCtorEq] at hc9)
  have hR : 4096 < T.length ∨ ¬ rtF m T (T.length + 1) 0 (rgI m.nx.length) (rgI m.nx.length) = some T.length := .inl (by omega)
  refine ai fun _ k10 => ?_
  refine ak hP hN rfl ?_
  (refine aj rfl fun _ k0 => ?_; simp only [zO, zT, acs, reduceCtorEq, aa, V, ad, ag, af, ae, Mly.av, aX]; (repeat refine an ?_); (try refine .inl ?_); apply k0; clear k0; simp only [zP, V])
  refine am ?_
  apply k10; clear k10; refine kp [0, 1, 2, 3, 4, 5, 12, 17] ?_
  refine aF ?_
  refine ⟨nr, _, rfl, ?_⟩; simp only [zF, zP, aa, V, Mly.av, aX]
  refine VLE.of_eq ?_
  refine congrArg (fun n => AV.one (AC.int IntKind.i64 n)) ?_
  unfold eK
  symm
  first
  | (rw [if_pos hE]; done)
  | (rw [if_neg (fun h => h hE), if_pos hR]; done)
  | (rw [if_neg (fun h => h hE), if_neg hR]; done)
 (try simp only [zB, reduceCtorEq] at hc9)
 refine ay ?_
 apply k7; clear k7; refine kp [0, 1, 2, 3, 4, 5, 12, 17] ?_
 refine ai fun _ k11 => ?_
 refine ak hP hN rfl ?_
 iterate 4 (refine aj rfl fun _ k0 => ?_; simp only [zO, zT, acs, reduceCtorEq, aa, V, ad, ag, af, ae, Mly.av, aX]; (repeat refine an ?_); (try refine .inl ?_); apply k0; clear k0; simp only [zP, V])
 refine am ?_
 apply k11; clear k11; refine kp [0, 1, 2, 3, 4, 5, 6, 12, 17] ?_
 refine ai fun _ k12 => ?_
 refine bn hP hN Try.mixed rfl ?_
 iterate 3 (refine aj rfl fun _ k0 => ?_; simp only [zO, zT, acs, reduceCtorEq, aa, V, ad, ag, af, ae, Mly.av, aX]; (repeat refine an ?_); (try refine .inl ?_); apply k0; clear k0; simp only [zP, V])
 refine aj rfl fun _ k0 => ?_
 refine aK (h := aE (ja m (by omega))) rfl rfl (by first | exact rfl | (simp only [ev, zP, aa, V]; exact rfl)) (by simp only [zV, acs, reduceCtorEq, aa, V, ad, ag, af, ae, Mly.av, aX]) ?_
 apply k0; clear k0; simp only [zP, V]
 (refine aj rfl fun _ k0 => ?_; simp only [zO, zT, acs, reduceCtorEq, aa, V, ad, ag, af, ae, Mly.av, aX]; (repeat refine an ?_); (try refine .inl ?_); apply k0; clear k0; simp only [zP, V])
 refine aj rfl fun _ k0 => ?_
 refine aK (h := aE (ja m (by omega))) rfl rfl (by first | exact rfl | (simp only [ev, zP, aa, V]; exact rfl)) (by simp only [zV, acs, reduceCtorEq, aa, V, ad, ag, af, ae, Mly.av, aX]) ?_
 apply k0; clear k0; simp only [zP, V]
 (refine aj rfl fun _ k0 => ?_; simp only [zO, zT, acs, reduceCtorEq, aa, V, ad, ag, af, ae, Mly.av, aX]; (repeat refine an ?_); (try refine .inl ?_); apply k0; clear k0; simp only [zP, V])
 refine aj rfl fun _ k0 => ?_
 refine aK (h := iW (k := 2) (T := 62) (cs := [.int .i64 m.inp, .int .i64 m.st, .list (.list (.int .i64)) m.nx, .list (.list (.int .i64)) m.ot]) (c := .nils) rfl (by simp) (fun x => uq m hm T (by omega) (T.length + 1) 0 (rgI m.nx.length) (rgI m.nx.length) x (by omega) (by omega) (lA m) rfl (by rw [dc]; omega) (by rw [dc]; omega) _ 2 rfl)) rfl rfl (by first | exact rfl | (simp only [ev, zP, aa, V]; exact rfl)) (by simp only [zV, acs, reduceCtorEq, aa, V, ad, ag, af, ae, Mly.av, aX]) ?_
 apply k0; clear k0; simp only [zP, V]
 iterate 5 (refine aj rfl fun _ k0 => ?_; simp only [zO, zT, acs, reduceCtorEq, aa, V, ad, ag, af, ae, Mly.av, aX]; (repeat refine an ?_); (try refine .inl ?_); apply k0; clear k0; simp only [zP, V])
 refine am ?_
 refine ⟨by kernel_rfl, ?_⟩
 apply k12; clear k12; refine kp [0, 1, 2, 3, 4, 5, 6, 7, 8, 12, 17] ?_
 refine ai fun _ k13 => ?_
 refine ai fun _ k14 => ?_
 refine ak hP hN rfl ?_
 iterate 3 (refine aj rfl fun _ k0 => ?_; simp only [zO, zT, acs, reduceCtorEq, aa, V, ad, ag, af, ae, Mly.av, aX]; (repeat refine an ?_); (try refine .inl ?_); apply k0; clear k0; simp only [zP, V])
 refine' aO (want := false) 5 rfl (m := 34) (by simp only [zP, aa, V]; exact rfl) (by kernel_rfl) rfl rfl rfl rfl rfl (fun hg15 => ?a15) ?b15 ?c15
 case a15 =>
  have hq15 := hg15; (try simp only [zB, reduceCtorEq] at hg15); simp only [zE]
  iterate 5 (refine bg rfl fun _ k0 => ?_; simp only [zO, zT, acs, reduceCtorEq, aa, V, ad, ag, af, ae, Mly.av, aX]; (repeat refine an ?_); (try refine .inl ?_); apply k0; clear k0; simp only [zP, V])
  (refine aj rfl fun _ k0 => ?_; simp only [zO, zT, acs, reduceCtorEq, aa, V, ad, ag, af, ae, Mly.av, aX]; (repeat refine an ?_); (try refine .inl ?_); apply k0; clear k0; simp only [zP, V])
  refine am ?_
  refine ⟨by simp only [zP, aa, V]; exact rfl, rfl, ?_, rfl⟩; (repeat refine aP rfl ?_); exact bo (by exact rfl) hq15
 case b15 => exact cr
 simp only [bb, aT]
 refine am ?_
 apply k14; clear k14; refine kp [0, 1, 2, 3, 4, 5, 6, 7, 8, 12, 17, 40] ?_
 refine cd (fun hc16 => ?_) (fun hc16 => ?_)
 ·(try simp only [zB, reduceCtorEq] at hc16)
  have hR : 4096 < T.length ∨ ¬ rtF m T (T.length + 1) 0 (rgI m.nx.length) (rgI m.nx.length) = some T.length := .inr (zM hc16)
  refine ai fun _ k17 => ?_
  refine ak hP hN rfl ?_
  (refine aj rfl fun _ k0 => ?_; simp only [zO, zT, acs, reduceCtorEq, aa, V, ad, ag, af, ae, Mly.av, aX]; (repeat refine an ?_); (try refine .inl ?_); apply k0; clear k0; simp only [zP, V])
  refine am ?_
  apply k17; clear k17; refine kp [0, 1, 2, 3, 4, 5, 6, 7, 8, 12, 17, 40] ?_
  refine aF ?_
  refine ⟨nr, _, rfl, ?_⟩; simp only [zF, zP, aa, V, Mly.av, aX]
  refine VLE.of_eq ?_
  refine congrArg (fun n => AV.one (AC.int IntKind.i64 n)) ?_
  unfold eK
  symm
  first
  | (rw [if_pos hE]; done)
  | (rw [if_neg (fun h => h hE), if_pos hR]; done)
  | (rw [if_neg (fun h => h hE), if_neg hR]; done)
 (try simp only [zB, reduceCtorEq] at hc16)
 have hR : ¬ (4096 < T.length ∨ ¬ rtF m T (T.length + 1) 0 (rgI m.nx.length) (rgI m.nx.length) = some T.length) := fun h => Or.elim h (fun h9 => by omega) (fun h9 => h9 (y4 hc16))
 refine ay ?_
 apply k13; clear k13; refine kp [0, 1, 2, 3, 4, 5, 6, 7, 8, 12, 17, 40] ?_
 refine ai fun _ k18 => ?_
 refine ak hP hN rfl ?_
 (refine aj rfl fun _ k0 => ?_; simp only [zO, zT, acs, reduceCtorEq, aa, V, ad, ag, af, ae, Mly.av, aX]; (repeat refine an ?_); (try refine .inl ?_); apply k0; clear k0; simp only [zP, V])
 refine am ?_
 apply k18; clear k18; refine kp [0, 1, 2, 3, 4, 5, 6, 7, 8, 12, 17, 40] ?_
 refine aF ?_
 refine ⟨nr, _, rfl, ?_⟩; simp only [zF, zP, aa, V, Mly.av, aX]
 refine VLE.of_eq ?_
 refine congrArg (fun n => AV.one (AC.int IntKind.i64 n)) ?_
 unfold eK
 symm
 first
 | (rw [if_pos hE]; done)
 | (rw [if_neg (fun h => h hE), if_pos hR]; done)
 | (rw [if_neg (fun h => h hE), if_neg hR]; done)
theorem wU (m : Mly) (T : List b7) (W : List Int) (v : Nat) (s a : Int) (hm : MOK m) (hs : 0 ≤ s ∧ s < m.nx.length) (ha : 0 ≤ a ∧ a < m.inp) (k : dN) : ep Try.prog [.vars 24 [.int .i64 m.inp, .int .i64 m.st, .list (.list (.int .i64)) m.nx, .list (.list (.int .i64)) m.ot], .vars 29 [.list ndT T], .vars 3 [.int .i64 s], .row (.int .i64) 3 v W, .vars 3 [.int .i64 a]] 42 [.agg [.int .i64 k.1, .int .i64 k.2.1], .one (.ptr 0 0 0 0), .one (.ptr 2 0 0 0), .one (.ptr 4 0 0 0)] { av := .one (.bool (decide (k.1 = m.out s a))), fp := [0, 1, 2, 3, 4] } := by
 have ol := hm.ol
 have q2 := hm.ql s.toNat (by omega)
 refine mw _ _ Try.func42 rfl (by kernel_rfl) (Nat.le_of_ble_eq_true rfl) (by intro k hk; simp only [au, aG, Nat.zero_add, V] at hk; simp only [List.mem_cons, List.not_mem_nil, or_false]; omega) (fun C hP hN hB => ?_)
 replace hB : C.bL.length = 5 := by rw [hB]; rfl
 replace hN : C.N = 17 := hN
 simp only [bf, V]
 refine ai fun _ k1 => ?_
 refine ak hP hN rfl ?_
 iterate 2 (refine aj rfl fun _ k0 => ?_; simp only [zO, zT, acs, reduceCtorEq, aa, V, ad, ag, af, ae, ah]; (repeat refine an ?_); (try refine .inl ?_); apply k0; clear k0; simp only [zP, V])
 refine am ?_
 apply k1; clear k1; refine kp [0, 1, 2, 3, 4, 5] ?_
 refine ai fun _ k2 => ?_
 refine bn hP hN Try.mixed rfl ?_
 iterate 12 (refine aj rfl fun _ k0 => ?_; simp only [zO, zT, acs, reduceCtorEq, aa, V, ad, ag, af, ae, ah]; (repeat refine an ?_); (try refine .inl ?_); apply k0; clear k0; simp only [zP, V])
 refine am ?_
 refine ⟨by kernel_rfl, ?_⟩
 apply k2; clear k2; refine kp [0, 1, 2, 3, 4, 5] ?_
 refine dh [5] ?_; simp only [cF, lkp, zE, reduceCtorEq, aa]
 refine eg (L1 := [_, _, _, _, _]) rfl (by rw [hB]; exact Nat.le_refl _) rfl rfl ?_
 refine aF ?_
 refine ⟨by first | exact .inl rfl | exact .inr rfl, _, rfl, ?_⟩; simp only [zP, aa, V, ah]
 first | exact ⟨rfl, rfl⟩ | rfl
theorem yS (m : Mly) (T : List b7) (W : List Int) (v : Nat) (s a : Int) (hm : MOK m) (hs : 0 ≤ s ∧ s < m.nx.length) (ha : 0 ≤ a ∧ a < m.inp) (K : List dN) (i0 : Nat) (hK : K.length ≤ 1000000) (hi0 : i0 < K.length) (hk0 : (K.getD i0 kd0).1 = m.out s a) (hku : ∀ j, j < K.length → (K.getD j kd0).1 = m.out s a → j = i0) : ep Try.prog [.vars 24 [.int .i64 m.inp, .int .i64 m.st, .list (.list (.int .i64)) m.nx, .list (.list (.int .i64)) m.ot], .vars 29 [.list ndT T], .vars 3 [.int .i64 s], .row (.int .i64) 3 v W, .vars 3 [.int .i64 a]] 41 [.one (.list kdT K), .one (.fn 42 [.ref 0, .ref 2, .ref 4])] { av := .one (.int .i64 (i0 : Int)), fp := [0, 1, 2, 3, 4] } := by
 refine mw _ _ Try.func41 rfl (by kernel_rfl) (Nat.le_of_ble_eq_true rfl) (by intro k hk; simp only [au, aG, Nat.zero_add, V] at hk; simp only [List.mem_cons, List.not_mem_nil, or_false]; omega) (fun C hP hN hB => ?_)
 replace hB : C.bL.length = 5 := by rw [hB]; rfl
 replace hN : C.N = 19 := hN
 simp only [bf, V]
 refine ai fun _ k1 => ?_
 refine ak hP hN rfl ?_
 (refine aj rfl fun _ k0 => ?_; simp only [zO, zT, acs, reduceCtorEq, aa, V, ad, ag, af, ae, ah, aw, az]; (repeat refine an ?_); (try refine .inl ?_); apply k0; clear k0; simp only [zP, V])
 refine am ?_
 apply k1; clear k1; refine kp [0, 1, 4] ?_
 refine ai fun _ k2 => ?_
 refine ai fun _ k3 => ?_
 refine ak hP hN rfl ?_
 iterate 3 (refine aj rfl fun _ k0 => ?_; simp only [zO, zT, acs, reduceCtorEq, aa, V, ad, ag, af, ae, ah, aw, az]; (repeat refine an ?_); (try refine .inl ?_); apply k0; clear k0; simp only [zP, V])
 refine am ?_
 apply k3; clear k3; refine kp [0, 1, 4, 7, 8] ?_
 refine aA ?_
 refine aY (fun n4 s4 => ∃ (i : Nat), (i ≤ K.length) ∧ (∀ j, j < i → ¬ (K.getD j kd0).1 = m.out s a) ∧ n4 = K.length - i ∧ s4 = { env := [(0, .one (.list kdT K)), (1, .one (.fn 42 [.ref 0, .ref 2, .ref 4])), (4, .one (.int .i64 0)), (7, .one (.int .i64 (K.length : Int))), (8, .one (.int .i64 (i : Int)))], L := [.vars 24 [.int .i64 m.inp, .int .i64 m.st, .list (.list (.int .i64)) m.nx, .list (.list (.int .i64)) m.ot], .vars 29 [.list ndT T], .vars 3 [.int .i64 s], .row (.int .i64) 3 v W, .vars 3 [.int .i64 a]] }) ?_ ?_
 ·exact ⟨_, _, ax [0, 1, 4, 7, 8], 0, Nat.zero_le _, fun j h => by omega, rfl, rfl⟩
 rintro n4 s4 ⟨i, hi, hnu, rfl, rfl⟩
 refine ai fun _ k5 => ?_
 refine ak hP hN rfl ?_
 (refine aj rfl fun _ k0 => ?_; simp only [zO, zT, acs, reduceCtorEq, aa, V, ad, ag, af, ae, ah, aw, az]; (repeat refine an ?_); (try refine .inl ?_); apply k0; clear k0; simp only [zP, V])
 refine am ?_
 apply k5; clear k5; refine kp [0, 1, 4, 7, 8, 9] ?_
 refine ai fun _ k6 => ?_
 refine cd (fun hc7 => ?_) (fun hc7 => ?_)
 ·(try simp only [zB, reduceCtorEq] at hc7)
  refine ay ?_
  apply k6; clear k6; refine kp [0, 1, 4, 7, 8, 9] ?_
  refine ai fun _ k8 => ?_
  refine aA ?_
  refine ai fun _ k9 => ?_
  refine ak hP hN rfl ?_
  iterate 2 (refine aj rfl fun _ k0 => ?_; simp only [zO, zT, acs, reduceCtorEq, aa, V, ad, ag, af, ae, ah, aw, az]; (repeat refine an ?_); (try refine .inl ?_); apply k0; clear k0; simp only [zP, V])
  refine am ?_
  apply k9; clear k9; refine kp [0, 1, 4, 5, 7, 8, 9] ?_
  refine ai fun _ k10 => ?_
  have hil : i < K.length := by omega
  refine ak hP hN rfl ?_
  iterate 5 (refine aj rfl fun _ k0 => ?_; simp only [zO, zT, acs, reduceCtorEq, aa, V, ad, ag, af, ae, ah, aw, az]; (repeat refine an ?_); (try refine .inl ?_); apply k0; clear k0; simp only [zP, V])
  refine aj rfl fun _ k0 => ?_
  refine aK (h := wU m T W v s a hm hs ha (K.getD i kd0)) rfl rfl (by first | exact rfl | (simp only [ev, zP, aa, V]; exact rfl)) (by simp only [zV, acs, reduceCtorEq, aa, V, ad, ag, af, ae, ah, aw, az]) ?_
  apply k0; clear k0; simp only [zP, V]
  refine am ?_
  apply k10; clear k10; refine kp [0, 1, 4, 5, 7, 8, 9, 16] ?_
  refine cd (fun hc11 => ?_) (fun hc11 => ?_)
  ·(try simp only [zB, reduceCtorEq] at hc11)
   have hii : i = i0 := hku i hil (by simpa using hc11)
   refine ai fun _ k12 => ?_
   refine ak hP hN rfl ?_
   iterate 2 (refine aj rfl fun _ k0 => ?_; simp only [zO, zT, acs, reduceCtorEq, aa, V, ad, ag, af, ae, ah, aw, az]; (repeat refine an ?_); (try refine .inl ?_); apply k0; clear k0; simp only [zP, V])
   refine am ?_
   apply k12; clear k12; refine kp [0, 1, 4, 5, 7, 8, 9, 16] ?_
   refine aF ?_
   refine ⟨by first | exact .inl rfl | exact .inr rfl, _, rfl, ?_⟩; simp only [zP, aa, V, ah, aw, az]
   rw [hii]; all_goals (first | exact ⟨rfl, rfl⟩ | rfl)
  (try simp only [zB, reduceCtorEq] at hc11)
  have hni : ¬ (K.getD i kd0).1 = m.out s a := by simpa using hc11
  refine ay ?_
  apply k8; clear k8; refine kp [0, 1, 4, 5, 7, 8, 9, 16] ?_
  refine ak hP hN rfl ?_
  iterate 2 (refine aj rfl fun _ k0 => ?_; simp only [zO, zT, acs, reduceCtorEq, aa, V, ad, ag, af, ae, ah, aw, az]; (repeat refine an ?_); (try refine .inl ?_); apply k0; clear k0; simp only [zP, V])
  refine am ?_
  refine ⟨_, _, ?_, ax [0, 1, 4, 7, 8], i + 1, by omega, fun j h => ?_, rfl, rfl⟩
  · omega
  · by_cases e : j = i
    · rw [e]; exact hni
    · exact hnu j (by omega)
 ·exfalso; (try simp only [zB, reduceCtorEq] at hc7)
  exact absurd hk0 (hnu i0 (by omega))
set_option maxHeartbeats 1500000 in
theorem tb (m : Mly) (T : List b7) (hK : ∀ x ∈ T, x.2.2.1.length ≤ 1000000) (t : Int) : bP Try.prog 22 [m.av, .agg [.list ndT T], .one (.int .i64 t)] (.tup [.one (.list (.int .i64) (if fm m T t = 0 then (fo m T t).1 else [])), .one (.int .i64 (if fm m T t = 0 then ((fo m T t).2 : Int) else 0)), .one (.int .i64 (fm m T t))]) := by
 refine aS Try.func22 rfl (by kernel_rfl) (Nat.le_of_ble_eq_true rfl) rfl fun C hP hN hB => ?_
 replace hN : C.N = 76 := hN
 simp only [bf, V]
 refine ai fun _ k1 => ?_
 refine ak hP hN rfl ?_
 iterate 5 (refine aj rfl fun _ k0 => ?_; simp only [zO, zT, acs, reduceCtorEq, aa, V, ad, ag, af, ae, Mly.av, ah, aw, aB, az]; (repeat refine And.intro (by first | omega | assumption | exact rfl | exact haQ | exact haN | exact hiK) ?_); (try refine .inl ?_); apply k0; clear k0; simp only [zP, V])
 refine am ?_
 apply k1; clear k1; refine kp [0, 1, 2, 3, 4, 6, 7, 8] ?_
 refine ai fun _ k2 => ?_
 refine ai fun _ k3 => ?_
 refine ak hP hN rfl ?_
 iterate 2 (refine aj rfl fun _ k0 => ?_; simp only [zO, zT, acs, reduceCtorEq, aa, V, ad, ag, af, ae, Mly.av, ah, aw, aB, az]; (repeat refine And.intro (by first | omega | assumption | exact rfl | exact haQ | exact haN | exact hiK) ?_); (try refine .inl ?_); apply k0; clear k0; simp only [zP, V])
 refine aj rfl fun _ k0 => ?_
 refine aK (h := aE (uy m T)) rfl rfl (by first | exact rfl | (simp only [ev, zP, aa, V]; exact rfl)) (by simp only [zV, acs, reduceCtorEq, aa, V, ad, ag, af, ae, Mly.av, ah, aw, aB, az]) ?_
 apply k0; clear k0; simp only [zP, V]
 (refine aj rfl fun _ k0 => ?_; simp only [zO, zT, acs, reduceCtorEq, aa, V, ad, ag, af, ae, Mly.av, ah, aw, aB, az]; (repeat refine And.intro (by first | omega | assumption | exact rfl | exact haQ | exact haN | exact hiK) ?_); (try refine .inl ?_); apply k0; clear k0; simp only [zP, V])
 refine am ?_
 apply k3; clear k3; refine kp [0, 1, 2, 3, 4, 6, 7, 8, 9] ?_
 refine ai fun _ k4 => ?_
 refine ak hP hN rfl ?_
 iterate 2 (refine aj rfl fun _ k0 => ?_; simp only [zO, zT, acs, reduceCtorEq, aa, V, ad, ag, af, ae, Mly.av, ah, aw, aB, az]; (repeat refine And.intro (by first | omega | assumption | exact rfl | exact haQ | exact haN | exact hiK) ?_); (try refine .inl ?_); apply k0; clear k0; simp only [zP, V])
 refine am ?_
 apply k4; clear k4; refine kp [0, 1, 2, 3, 4, 6, 7, 8, 9, 19] ?_
 refine cd (fun hc5 => ?_) (fun hc5 => ?_)
 ·(try simp only [zB, reduceCtorEq] at hc5)
  have hE : fm m T t = eK m T := if_pos hc5
  have hE0 : ¬ fm m T t = 0 := by rw [hE]; exact hc5
  refine ai fun _ k6 => ?_
  refine ak hP hN rfl ?_
  iterate 4 (refine aj rfl fun _ k0 => ?_; simp only [zO, zT, acs, reduceCtorEq, aa, V, ad, ag, af, ae, Mly.av, ah, aw, aB, az]; (repeat refine And.intro (by first | omega | assumption | exact rfl | exact haQ | exact haN | exact hiK) ?_); (try refine .inl ?_); apply k0; clear k0; simp only [zP, V])
  refine am ?_
  apply k6; clear k6; refine kp [0, 1, 2, 3, 4, 6, 7, 8, 9, 19] ?_
  refine aF ?_
  refine ⟨nr, _, rfl, ?_⟩; simp only [zF, zP, aa, V, Mly.av, ah, aw, aB, az]
  first
  | (rw [if_neg hE0, if_neg hE0, hE]; exact cg ⟨aU (bq rfl), aU (.refl _), aU (.refl _), trivial⟩)
  | (rw [if_pos hE, if_pos hE, hE, hW1, hW2]; exact VLE.of_eq rfl)
 (try simp only [zB, reduceCtorEq] at hc5)
 have hE0 : eK m T = 0 := by simpa using hc5
 obtain ⟨hv, hT, hrt⟩ := Ap hE0
 have hm := eO hv
 have hn2 := hm.n2
 have ol := hm.ol
 refine ay ?_
 apply k2; clear k2; refine kp [0, 1, 2, 3, 4, 6, 7, 8, 9, 19] ?_
 refine ai fun _ k7 => ?_
 refine ai fun _ k8 => ?_
 refine ak hP hN rfl ?_
 iterate 3 (refine aj rfl fun _ k0 => ?_; simp only [zO, zT, acs, reduceCtorEq, aa, V, ad, ag, af, ae, Mly.av, ah, aw, aB, az]; (repeat refine And.intro (by first | omega | assumption | exact rfl | exact haQ | exact haN | exact hiK) ?_); (try refine .inl ?_); apply k0; clear k0; simp only [zP, V])
 refine' aO (want := false) 5 rfl (m := 23) (by simp only [zP, aa, V]; exact rfl) (by kernel_rfl) rfl rfl rfl rfl rfl (fun hg9 => ?a9) ?b9 ?c9
 case a9 =>
  have hq9 := hg9; (try simp only [zB, reduceCtorEq] at hg9); simp only [zE]
  iterate 5 (refine bg rfl fun _ k0 => ?_; simp only [zO, zT, acs, reduceCtorEq, aa, V, ad, ag, af, ae, Mly.av, ah, aw, aB, az]; (repeat refine And.intro (by first | omega | assumption | exact rfl | exact haQ | exact haN | exact hiK) ?_); (try refine .inl ?_); apply k0; clear k0; simp only [zP, V])
  (refine aj rfl fun _ k0 => ?_; simp only [zO, zT, acs, reduceCtorEq, aa, V, ad, ag, af, ae, Mly.av, ah, aw, aB, az]; (repeat refine And.intro (by first | omega | assumption | exact rfl | exact haQ | exact haN | exact hiK) ?_); (try refine .inl ?_); apply k0; clear k0; simp only [zP, V])
  refine am ?_
  refine ⟨by simp only [zP, aa, V]; exact rfl, rfl, ?_, rfl⟩; (repeat refine aP rfl ?_); exact bo (by exact rfl) hq9
 case b9 => exact cr
 simp only [bb, aT]
 refine am ?_
 apply k8; clear k8; refine kp [0, 1, 2, 3, 4, 6, 7, 8, 9, 19, 29] ?_
 refine cd (fun hc10 => ?_) (fun hc10 => ?_)
 ·(try simp only [zB, reduceCtorEq] at hc10)
  have hE : fm m T t = 2 := (if_neg (fun h => h hE0)).trans (if_pos hc10)
  have hE0 : ¬ fm m T t = 0 := by rw [hE]; decide
  refine ai fun _ k11 => ?_
  refine ak hP hN rfl ?_
  iterate 3 (refine aj rfl fun _ k0 => ?_; simp only [zO, zT, acs, reduceCtorEq, aa, V, ad, ag, af, ae, Mly.av, ah, aw, aB, az]; (repeat refine And.intro (by first | omega | assumption | exact rfl | exact haQ | exact haN | exact hiK) ?_); (try refine .inl ?_); apply k0; clear k0; simp only [zP, V])
  refine am ?_
  apply k11; clear k11; refine kp [0, 1, 2, 3, 4, 6, 7, 8, 9, 19, 29] ?_
  refine aF ?_
  refine ⟨nr, _, rfl, ?_⟩; simp only [zF, zP, aa, V, Mly.av, ah, aw, aB, az]
  first
  | (rw [if_neg hE0, if_neg hE0, hE]; exact cg ⟨aU (bq rfl), aU (.refl _), aU (.refl _), trivial⟩)
  | (rw [if_pos hE, if_pos hE, hE, hW1, hW2]; exact VLE.of_eq rfl)
 (try simp only [zB, reduceCtorEq] at hc10)
 have ht : 0 ≤ t ∧ t < m.nx.length := hc10
 have hE : fm m T t = 0 := (if_neg (fun h => h hE0)).trans (if_neg (by omega))
 refine ay ?_
 apply k7; clear k7; refine kp [0, 1, 2, 3, 4, 6, 7, 8, 9, 19, 29] ?_
 refine ai fun _ k12 => ?_
 refine ak hP hN rfl ?_
 (refine aj rfl fun _ k0 => ?_; simp only [zO, zT, acs, reduceCtorEq, aa, V, ad, ag, af, ae, Mly.av, ah, aw, aB, az]; (repeat refine And.intro (by first | omega | assumption | exact rfl | exact haQ | exact haN | exact hiK) ?_); (try refine .inl ?_); apply k0; clear k0; simp only [zP, V])
 refine am ?_
 apply k12; clear k12; refine kp [0, 1, 2, 3, 4, 6, 7, 8, 9, 10, 19, 29] ?_
 refine ai fun _ k13 => ?_
 refine ak hP hN rfl ?_
 iterate 4 (refine aj rfl fun _ k0 => ?_; simp only [zO, zT, acs, reduceCtorEq, aa, V, ad, ag, af, ae, Mly.av, ah, aw, aB, az]; (repeat refine And.intro (by first | omega | assumption | exact rfl | exact haQ | exact haN | exact hiK) ?_); (try refine .inl ?_); apply k0; clear k0; simp only [zP, V])
 refine am ?_
 apply k13; clear k13; refine kp [0, 1, 2, 3, 4, 6, 7, 8, 9, 10, 11, 12, 19, 29] ?_
 refine ai fun _ k14 => ?_
 refine aA ?_
 refine dZ 10 (.int .i64) 3 (by decide) rfl ?_; simp only [au, aG, aM, b6, Nat.zero_add, V]
 refine aY (fun n15 s15 => ∃ (p f v : Nat) (s : Int) (W : List Int) (G : List AO), (RTI m T p s) ∧ ((W ++ (wdG m T f p s).1, (wdG m T f p s).2) = fo m T t) ∧ (T.length ≤ f + p) ∧ (W.length ≤ p) ∧ (G = [] ∨ ∃ ob, G = [ob]) ∧ n15 = T.length + 1 - p ∧ s15 = { env := [(3, .one (.ptr 0 0 0 0)), (4, .one (.ptr 1 0 0 0)), (6, .one .nils), (7, .one (.int .i64 0)), (8, .one (.int .i64 0)), (10, .one (.row 3 v)), (11, .one (.int .i64 (p : Int))), (12, .one (.ptr 2 0 0 0))], L := [.vars 24 [.int .i64 m.inp, .int .i64 m.st, .list (.list (.int .i64)) m.nx, .list (.list (.int .i64)) m.ot], .vars 29 [.list ndT T], .vars 3 [.int .i64 s], .row (.int .i64) 3 v W] ++ G }) ?_ ?_
 ·exact ⟨_, _, ax [3, 4, 6, 7, 8, 10, 11, 12], 0, T.length, 0, t, [], [], qT hrt ht, rfl, by omega, Nat.zero_le _, .inl rfl, rfl, rfl⟩
 rintro n15 s15 ⟨p, f, v, s, W, G, hrti, hW, hfp, hWl, hG, rfl, rfl⟩
 refine xt (L1 := [_, _, _, _]) hG rfl (by rw [hB]; simp) rfl rfl ?_
 refine ai fun _ k16 => ?_
 refine ai fun _ k17 => ?_
 have hpl9 := wH hrti
 refine ak hP hN rfl ?_
 iterate 7 (refine aj rfl fun _ k0 => ?_; simp only [zO, zT, acs, reduceCtorEq, aa, V, ad, ag, af, ae, Mly.av, ah, aw, aB, az]; (repeat refine And.intro (by first | omega | assumption | exact rfl | exact haQ | exact haN | exact hiK) ?_); (try refine .inl ?_); apply k0; clear k0; simp only [zP, V])
 refine am ?_
 apply k17; clear k17; refine kp [3, 4, 6, 7, 8, 10, 11, 12, 37] ?_
 refine cd (fun hc18 => ?_) (fun hc18 => ?_)
 ·(try simp only [zB, reduceCtorEq] at hc18)
  have h0 : ¬ (T.getD p nd0).2.1 < 0 := by have h9 : 0 ≤ (T.getD p nd0).2.1 := hc18; omega
  obtain ⟨hpl, hs9, ha9, i0, hi0, hk0, hku, hk1, hk2, hrti2⟩ := tc hm hrti h0
  have hkm : (T.getD p nd0) ∈ T := by simp [List.getD, hpl]
  have hkl := hK _ hkm
  have q1 := hm.rl s.toNat (by omega)
  have q2 := hm.ql s.toNat (by omega)
  have hto : (((T.getD p nd0).2.2.1.getD i0 kd0).2.1.toNat : Int) = ((T.getD p nd0).2.2.1.getD i0 kd0).2.1 := by omega
  have haQ : 0 ≤ (T.getD p nd0).2.1 ∧ (T.getD p nd0).2.1 < ((m.ot.getD s.toNat []).length : Int) := by omega
  have haN : 0 ≤ (T.getD p nd0).2.1 ∧ (T.getD p nd0).2.1 < ((m.nx.getD s.toNat []).length : Int) := by omega
  have hiK : (0 : Int) ≤ (i0 : Int) ∧ (i0 : Int) < ((T.getD p nd0).2.2.1.length : Int) := by omega
  refine ay ?_
  apply k16; clear k16; refine kp [3, 4, 6, 7, 8, 10, 11, 12, 37] ?_
  refine aA ?_
  refine ai fun _ k19 => ?_
  refine ak hP hN rfl ?_
  iterate 8 (refine aj rfl fun _ k0 => ?_; simp only [zO, zT, acs, reduceCtorEq, aa, V, ad, ag, af, ae, Mly.av, ah, aw, aB, az]; (repeat refine And.intro (by first | omega | assumption | exact rfl | exact haQ | exact haN | exact hiK) ?_); (try refine .inl ?_); apply k0; clear k0; simp only [zP, V])
  refine am ?_
  apply k19; clear k19; refine kp [3, 4, 6, 7, 8, 10, 11, 12, 13, 37] ?_
  refine ai fun _ k20 => ?_
  refine ak hP hN rfl ?_
  iterate 6 (refine aj rfl fun _ k0 => ?_; simp only [zO, zT, acs, reduceCtorEq, aa, V, ad, ag, af, ae, Mly.av, ah, aw, aB, az]; (repeat refine And.intro (by first | omega | assumption | exact rfl | exact haQ | exact haN | exact hiK) ?_); (try refine .inl ?_); apply k0; clear k0; simp only [zP, V])
  (refine aj rfl fun _ k0 => ?_; simp only [zE, op1, ev, lkp, cY, bK, bM, d7, Nat.mul_one, bS, cL, acs, Ty.dflt, zG, bZ, cA, Ty.size, ne_eq, not_false_eq_true, Int.natCast_one, Int.mul_one, jB, kz, se, reduceCtorEq, aa, V, ad, ag, af, ae, Try.el27, Try.el50, Try.st29, Try.st52, Try.td2, Try.td27, Try.td29, Try.td3, Try.td50, Try.td52, Try.td77, Mly.av, ah, aw, aB, az]; (repeat refine And.intro (by first | omega | assumption | exact rfl | exact haQ | exact haN | exact hiK) ?_); (try refine .inl ?_); apply k0; clear k0; simp only [zP, V])
  refine aj rfl fun _ k0 => ?_
  refine aK (h := yS m T W v s (T.getD p nd0).2.1 hm hs9 ha9 (T.getD p nd0).2.2.1 i0 hkl hi0 hk0 hku) rfl rfl (by first | exact rfl | (simp only [ev, zP, aa, V]; exact rfl)) (by simp only [zV, acs, reduceCtorEq, aa, V, ad, ag, af, ae, Mly.av, ah, aw, aB, az]) ?_
  apply k0; clear k0; simp only [zP, V]
  (refine aj rfl fun _ k0 => ?_; simp only [zO, zT, acs, reduceCtorEq, aa, V, ad, ag, af, ae, Mly.av, ah, aw, aB, az]; (repeat refine And.intro (by first | omega | assumption | exact rfl | exact haQ | exact haN | exact hiK) ?_); (try refine .inl ?_); apply k0; clear k0; simp only [zP, V])
  refine am ?_
  apply k20; clear k20; refine kp [3, 4, 6, 7, 8, 10, 11, 12, 13, 14, 37] ?_
  refine ai fun _ k21 => ?_
  refine ak hP hN rfl ?_
  iterate 5 (refine aj rfl fun _ k0 => ?_; simp only [zO, zT, acs, reduceCtorEq, aa, V, ad, ag, af, ae, Mly.av, ah, aw, aB, az]; (repeat refine And.intro (by first | omega | assumption | exact rfl | exact haQ | exact haN | exact hiK) ?_); (try refine .inl ?_); apply k0; clear k0; simp only [zP, V])
  refine am ?_
  apply k21; clear k21; refine kp [3, 4, 6, 7, 8, 10, 11, 12, 13, 14, 37] ?_
  refine ai fun _ k22 => ?_
  refine ak hP hN rfl ?_
  iterate 11 (refine aj rfl fun _ k0 => ?_; simp only [zO, zT, acs, reduceCtorEq, aa, V, ad, ag, af, ae, Mly.av, ah, aw, aB, az]; (repeat refine And.intro (by first | omega | assumption | exact rfl | exact haQ | exact haN | exact hiK) ?_); (try refine .inl ?_); apply k0; clear k0; simp only [zP, V])
  refine am ?_
  apply k22; clear k22; refine kp [3, 4, 6, 7, 8, 10, 11, 12, 13, 14, 37] ?_
  refine bn hP hN Try.mixed rfl ?_
  iterate 9 (refine aj rfl fun _ k0 => ?_; simp only [zO, zT, acs, reduceCtorEq, aa, V, ad, ag, af, ae, Mly.av, ah, aw, aB, az]; (repeat refine And.intro (by first | omega | assumption | exact rfl | exact haQ | exact haN | exact hiK) ?_); (try refine .inl ?_); apply k0; clear k0; simp only [zP, V])
  refine am ?_
  refine ⟨by kernel_rfl, ?_⟩
  obtain ⟨g, rfl⟩ : ∃ g, f = g + 1 := ⟨f - 1, by omega⟩
  refine ⟨_, _, ?_, ax [3, 4, 6, 7, 8, 10, 11, 12], ((T.getD p nd0).2.2.1.getD i0 kd0).2.1.toNat, g, v + 1, m.nxt s (T.getD p nd0).2.1, W ++ [(T.getD p nd0).2.1], [.vars 3 [.int .i64 (T.getD p nd0).2.1]], hrti2, tF h0 hi0 hk0 hku hW, by omega, by rw [aq]; simp only [au, aG]; omega, .inr ⟨_, rfl⟩, rfl, ?_⟩
  · omega
  · rw [hto]; rfl
 (try simp only [zB, reduceCtorEq] at hc18)
 have h0 : (T.getD p nd0).2.1 < 0 := by have h9 : (T.getD p nd0).2.1 < 0 := hc18; exact h9
 rw [pS h0, List.append_nil] at hW
 have hW1 : (fo m T t).1 = W := by rw [← hW]
 have hW2 : (fo m T t).2 = p := by rw [← hW]
 refine aV ?_
 apply k14; clear k14; refine kp [3, 4, 6, 7, 8, 10, 11, 12, 37] ?_
 refine ai fun _ k23 => ?_
 refine cq 3 rfl ?_; simp only [aH, bh, zS, aa, and_self, and_true, true_and, and_false, false_and, if_true, if_false, eq_self, reduceCtorEq, Nat.one_ne_zero, Nat.zero_ne_one]
 refine ak hP hN rfl ?_
 iterate 5 (refine aj rfl fun _ k0 => ?_; simp only [zO, zT, acs, reduceCtorEq, aa, V, ad, ag, af, ae, Mly.av, ah, aw, aB, az]; (repeat refine And.intro (by first | omega | assumption | exact rfl | exact haQ | exact haN | exact hiK) ?_); (try refine .inl ?_); apply k0; clear k0; simp only [zP, V])
 refine am ?_
 apply k23; clear k23; refine kp [3, 4, 6, 7, 8, 10, 11, 12, 37] ?_
 refine aF ?_
 refine ⟨nr, _, rfl, ?_⟩; simp only [zF, zP, aa, V, Mly.av, ah, aw, aB, az]
 first
 | (rw [if_neg hE0, if_neg hE0, hE]; exact cg ⟨aU (bq rfl), aU (.refl _), aU (.refl _), trivial⟩)
 | (rw [if_pos hE, if_pos hE, hE, hW1, hW2]; exact VLE.of_eq rfl)
section
open Go.RowKit Go.Shelf
attribute [local go_sem] Oper.semAt_some
structure NV12 where
  sa : Option Addr
  sn : Nat
  sc : Nat
  i : Int
  ka : Option Addr
  kn : Nat
  kc : Nat
def NV12.v (x : NV12) : Value := .agg #[.slice x.sa x.sn x.sc, .int .i64 x.i, .slice x.ka x.kn x.kc]
def fq (f : Nat → NV12) (k : Nat) : List NV12 := ((List.range k).map f).filter fun x => decide (x.i = -1)
theorem Ag {f : Nat → NV12} {k : Nat} (h : (f k).i = -1) : fq f (k + 1) = fq f k ++ [f k] := by
  unfold fq; rw [List.range_succ, List.map_append, List.filter_append]; simp [h]
theorem zA {f : Nat → NV12} {k : Nat} (h : ¬ (f k).i = -1) : fq f (k + 1) = fq f k := by
  unfold fq; rw [List.range_succ, List.map_append, List.filter_append]; simp [h]
theorem xz {f : Nat → NV12} {k : Nat} : (fq f k).length ≤ k := by
  unfold fq; exact Nat.le_trans (List.length_filter_le _ _) (by simp)
set_option maxHeartbeats 2000000 in
theorem yD (F : Fence) (n : Nat) (h61 : F.fn 61) (hro : F.round = none) (hn : 1 ≤ n) (l Bs n₀ b off len cap : Nat) (f : Nat → NV12) (hln : len ≤ 1000000000) (hb : b < n₀) (J Jx : List NV12 → World → Prop)
    (hY : ∀ pre x W, J pre W → pre.length < len → YieldAt F (n - 1) Try.prog l #[NV12.v x] W fun e W' =>
      (e = .returned (.bool true) ∧ J (pre ++ [x]) W' ∧ Below n₀ W W') ∨ (e = .returned (.bool false) ∧ Jx (pre ++ [x]) W'))
    (W : World) (hn₀ : n₀ ≤ W.heap.size) (hJ : AbidesFrom W.heap.size J)
    (hBs : W.cell? ⟨Bs, 0, none⟩ = some (.slice (some ⟨b, off, none⟩) len cap)) (hc0 : ∀ j, j < len → W.cell? ⟨b, off + j * 3, none⟩ = some (.slice (f j).sa (f j).sn (f j).sc)) (hc1 : ∀ j, j < len → W.cell? ⟨b, off + j * 3 + 1, none⟩ = some (.int .i64 (f j).i)) (hc2 : ∀ j, j < len → W.cell? ⟨b, off + j * 3 + 2, none⟩ = some (.slice (f j).ka (f j).kn (f j).kc)) (h0 : J [] W) :
    CallsIn F n Try.prog 61 #[.func (.yield l) #[] #[], .pointer (some ⟨Bs, 0, none⟩)] W fun e W' => (∃ v, e = .returned v) ∧
      ((∃ ys, ys = fq f len ∧ J ys W') ∨ (∃ pre, (∃ k, k ≤ len ∧ pre = fq f k) ∧ Jx pre W')) := by
  refine callsIn_of_wp Try.func61 rfl h61 ?_ hro
  simp only [Try.ntmps61, List.size_toArray, au, aG, V, ae, Array.replicate_succ, Array.replicate_zero, List.push_toArray, List.append_toArray, b6, aM]
  gi_wp2
  gi_loopw [8] (fun i wr => ∃ k : Nat, k ≤ len ∧ i = .int .i64 k ∧ J (fq f k) wr ∧ Below n₀ W wr)
    (fun i _ => len - (intOf i).toNat)
  case atStart => exact ⟨0, Nat.zero_le _, rfl, h0, Below.refl _ _⟩
  case round =>
    obtain ⟨k, hk, rfl, hJs, hnx⟩ := hrel
    by_cases hlt : k < len
    · have q0 := (hnx.cell (p := ⟨b, off + k * 3, none⟩) hb).trans (hc0 k hlt)
      have q1 := (hnx.cell (p := ⟨b, off + k * 3 + 1, none⟩) hb).trans (hc1 k hlt)
      have q2 := (hnx.cell (p := ⟨b, off + k * 3 + 2, none⟩) hb).trans (hc2 k hlt)
      rcases hf : f k with ⟨sa, sn, sc, i, ka, kn, kc⟩
      rw [hf] at q0 q1 q2
      dsimp only at q0 q1 q2
      by_cases hi : i = -1
      · subst hi
        have hJ1 : J (fq f k) (wr.alloc (.cells #[.slice sa sn sc, .int .i64 (-1), .slice ka kn kc] 52)) := hJ _ wr _ none hJs (World.grownBy_alloc wr _ none) (fun r e => by cases e)
        have hll := xz (f := f) (k := k)
        obtain ⟨fn, tmps, assign, body, hy, hR⟩ := hY _ (f k) _ hJ1 (by omega)
        rw [hf] at hy hR
        dsimp only [NV12.v] at hy
        gi_wp2
        refine hR.mono ?_
        have hlv : fq f (k + 1) = fq f k ++ [⟨sa, sn, sc, -1, ka, kn, kc⟩] := by rw [Ag (by rw [hf]), hf]
        rintro e W3 (⟨rfl, hJ3, hk3⟩ | ⟨rfl, hJx3⟩)
        · gi_wp2
          go_roundw
          case rel => exact ⟨k + 1, by omega, by simp, by rw [hlv]; exact hJ3, hnx.trans (((Below.refl n₀ wr).alloc (Nat.le_trans hn₀ hnx.size) _).trans hk3)⟩
          case measure => simp [intOf]; omega
        · gi_wp2
          refine bodyPost_ret (results_none rfl _ _ _) rfl ?_
          exact ⟨⟨_, rfl⟩, .inr ⟨_, ⟨k + 1, by omega, hlv.symm⟩, hJx3⟩⟩
      · have hi2 : (i == -1) = false := by simp [hi]
        gi_wp2
        refine ⟨fun _ h => (by cases h), ?_⟩
        gi_wp2
        go_roundw
        case rel => exact ⟨k + 1, by omega, by simp, by rw [zA (by rw [hf]; exact hi)]; exact hJ _ wr _ none hJs (World.grownBy_alloc wr _ none) (fun r e => by cases e), hnx.trans ((Below.refl n₀ wr).alloc (Nat.le_trans hn₀ hnx.size) _)⟩
        case measure => simp [intOf]; omega
    · obtain rfl : k = len := by omega
      gi_wp2
      go_end0
      exact ⟨⟨_, rfl⟩, .inl ⟨_, rfl, hJs⟩⟩

set_option maxHeartbeats 1000000 in
theorem xy (F : Fence) (n : Nat) (h61 : F.fn 61) (hro : F.round = none) (l Bs : Nat) (A : Option Addr) (cap : Nat) (J : List NV12 → World → Prop) (W : World) (hBs : W.cell? ⟨Bs, 0, none⟩ = some (.slice A 0 cap)) (h0 : J [] W) :
    CallsIn F n Try.prog 61 #[.func (.yield l) #[] #[], .pointer (some ⟨Bs, 0, none⟩)] W fun e W' => (∃ v, e = .returned v) ∧ J [] W' := by
  refine callsIn_of_wp Try.func61 rfl h61 ?_ hro
  simp only [Try.ntmps61, List.size_toArray, au, aG, V, ae, Array.replicate_succ, Array.replicate_zero, List.push_toArray, List.append_toArray, b6, aM]
  gi_wp2
  gi_loopw [8] (fun i wr => i = .int .i64 0 ∧ J [] wr) (fun _ _ => 0)
  case atStart => exact ⟨rfl, h0⟩
  case round =>
    obtain ⟨rfl, hJs⟩ := hrel
    gi_wp2
    go_end0
    exact ⟨⟨_, rfl⟩, hJs⟩

set_option maxHeartbeats 1000000 in
theorem zb (F : Fence) (n : Nat) (h39 : F.fn 39) (hro : F.round = none) (A : Option Addr) (len cap : Nat) (w : World) :
    CallsIn F n Try.prog 39 #[.agg #[.slice A len cap]] w fun e w' => e = .returned (.func (.func 61) #[] #[.pointer (some ⟨w.heap.size, 0, none⟩)]) ∧ w' = w.alloc (.cells #[.slice A len cap] 29) := by
  refine callsIn_of_wp Try.func39 rfl h39 ?_ hro
  simp only [Try.ntmps39, List.size_toArray, au, aG, V, ae, Array.replicate_succ, Array.replicate_zero, List.push_toArray, List.append_toArray, b6, aM]
  gi_wp2
  go_ret
  exact ⟨rfl, rfl⟩

def pQ (n₀ : Nat) (W : World) (A : Option Addr) (len : Nat) (f : Nat → NV12) : Prop :=
  0 < len → ∃ b off, A = some ⟨b, off, none⟩ ∧ b < n₀ ∧ (∀ j, j < len → W.cell? ⟨b, off + j * 3, none⟩ = some (.slice (f j).sa (f j).sn (f j).sc)) ∧ (∀ j, j < len → W.cell? ⟨b, off + j * 3 + 1, none⟩ = some (.int .i64 (f j).i)) ∧
    (∀ j, j < len → W.cell? ⟨b, off + j * 3 + 2, none⟩ = some (.slice (f j).ka (f j).kn (f j).kc))

theorem vP (F : Fence) (n : Nat) (h61 : F.fn 61) (hro : F.round = none) (hn : 1 ≤ n) (Bs n₀ : Nat) (A : Option Addr) (len cap : Nat) (f : Nat → NV12) (hln : len ≤ 1000000000) (w : World) (hBs : Bs < w.heap.size) (hn₀ : n₀ ≤ w.heap.size)
    (hc : w.cell? ⟨Bs, 0, none⟩ = some (.slice A len cap)) (hI : pQ n₀ w A len f) :
    SeqStopsK F n Try.prog 61 #[.pointer (some ⟨Bs, 0, none⟩)] (fun x : NV12 => #[NV12.v x]) (Below n₀) (fun ys => ys = fq f len) (fun pre => ∃ k, k ≤ len ∧ pre = fq f k) len w := fun l J Jx W hW hJ _ hY h0 => by
  have hc' := (hW.cell (p := ⟨Bs, 0, none⟩) hBs).trans hc
  rcases Nat.eq_zero_or_pos len with e | e
  · subst e
    exact (xy F n h61 hro l Bs A cap J W hc' h0).mono fun e W' ⟨he, hj⟩ => ⟨he, .inl ⟨_, rfl, hj⟩⟩
  · obtain ⟨b, off, rfl, hb, c0, c1, c2⟩ := hI e
    have hbw : b < w.heap.size := by omega
    exact yD F n h61 hro hn l Bs n₀ b off len cap f hln hb J Jx hY W (Nat.le_trans hn₀ hW.size) hJ hc'
      (fun j hj => (hW.cell (p := ⟨b, off + j * 3, none⟩) hbw).trans (c0 j hj)) (fun j hj => (hW.cell (p := ⟨b, off + j * 3 + 1, none⟩) hbw).trans (c1 j hj)) (fun j hj => (hW.cell (p := ⟨b, off + j * 3 + 2, none⟩) hbw).trans (c2 j hj)) h0

theorem sF {n₀ : Nat} {W W' : World} (h : Below n₀ W W') {A : Option Addr} {len : Nat} {f : Nat → NV12} (hd : pQ n₀ W A len f) : pQ n₀ W' A len f := fun e => by
  obtain ⟨b, off, ea, hb, c0, c1, c2⟩ := hd e
  exact ⟨b, off, ea, hb, fun j hj => (h.cell (p := ⟨b, off + j * 3, none⟩) hb).trans (c0 j hj), fun j hj => (h.cell (p := ⟨b, off + j * 3 + 1, none⟩) hb).trans (c1 j hj), fun j hj => (h.cell (p := ⟨b, off + j * 3 + 2, none⟩) hb).trans (c2 j hj)⟩
theorem wS {f : Nat → NV12} {k n : Nat} (h : k ≤ n) {x : NV12} (hx : x ∈ fq f k) : x ∈ fq f n := by
  unfold fq at hx ⊢
  obtain ⟨h1, h2⟩ := List.mem_filter.1 hx
  obtain ⟨j, hj, e⟩ := List.mem_map.1 h1
  have := List.mem_range.1 hj
  exact List.mem_filter.2 ⟨List.mem_map.2 ⟨j, List.mem_range.2 (by omega), e⟩, h2⟩

def yC (W : World) (B : Nat) (x : NV12) : Prop := W.heap[B]? = some (.cells #[.slice x.sa x.sn x.sc, .int .i64 x.i, .slice x.ka x.kn x.kc] 52 (0, 0))
theorem vM {β : Type} (B : Nat) (f : β → NV12) : Own (fun s W => yC W B (f s)) := fun s X Y row hs hg hrow =>
  (hg.block B (Array.getElem?_eq_some_iff.1 hs).1 (fun e' => by obtain ⟨o, ho, hc⟩ := hrow B e'.symm; rw [show X.heap[B]? = _ from hs] at ho; cases ho; cases hc)).trans hs

set_option maxHeartbeats 4000000 in
theorem zi (F : Fence) (n : Nat) (h18 : F.fn 18) (h39 : F.fn 39) (h61 : F.fn 61) (hro : F.round = none) (hn : 6 ≤ n) (A : Option Addr) (len cap : Nat) (f : Nat → NV12) (hln : len ≤ 1000000000) (w : World) (hI : pQ w.heap.size w A len f) :
    CallsIn F n Try.prog 18 #[.agg #[.slice A len cap]] w fun e W' => (∃ r, e = .returned (.bool r) ∧ (r = true ↔ (∀ x ∈ fq f len, x.sn = 1) ∧ 0 < len)) ∧ Below w.heap.size w W' := by
  have h1 : 1 ≤ n := by omega
  refine callsIn_of_wp_marks Try.func18 rfl h18 ?_ hro
  simp only [Try.ntmps18, List.size_toArray, au, aG, V, ae, Array.replicate_succ, Array.replicate_zero, List.push_toArray, List.append_toArray, b6, aM]
  gi_wp2_with (gi_at_call 39; refine (zb F (n - 1) h39 hro _ _ _ _).mono ?_; rintro e w' ⟨rfl, rfl⟩)
  have bT := ((Boxed.new w 29 (.slice A len cap)).alloc (.cells #[.bool false] 4)).alloc (.cells #[.slice A len cap] 29)
  have bR := (Boxed.new (w.alloc (.cells #[.slice A len cap] 29)) 4 (.bool false)).alloc (.cells #[.slice A len cap] 29)
  have bA := Boxed.new ((w.alloc (.cells #[.slice A len cap] 29)).alloc (.cells #[.bool false] 4)) 29 (.slice A len cap)
  simp only [World.size_alloc] at bR bA
  have hB0 : Below w.heap.size w (((w.alloc (.cells #[.slice A len cap] 29)).alloc (.cells #[.bool false] 4)).alloc (.cells #[.slice A len cap] 29)) := (((Below.refl _ w).alloc (Nat.le_refl _) _).alloc (by simp) _).alloc (by simp; omega) _
  have hsz : (((w.alloc (.cells #[.slice A len cap] 29)).alloc (.cells #[.bool false] 4)).alloc (.cells #[.slice A len cap] 29)).heap.size = w.heap.size + 3 := by simp
  obtain ⟨W0, hW0⟩ : ∃ W0, (((w.alloc (.cells #[.slice A len cap] 29)).alloc (.cells #[.bool false] 4)).alloc (.cells #[.slice A len cap] 29)) = W0 := ⟨_, rfl⟩
  rw [hW0] at bT bR bA hB0 hsz ⊢
  clear hW0
  refine wpIn_rangeFunc_ownH hro h1 (gf := 61) (lb := #[.pointer (some ⟨w.heap.size + 1 + 1, 0, none⟩)]) rfl h61 (enters_of Try.func61 (by kernel_rfl) rfl)
    (vP F (n - 1) h61 hro (by omega) (w.heap.size + 1 + 1) w.heap.size A len cap f hln W0 (by omega) (by omega) bA.cell (sF hB0 hI)) belowK_t (belowK_b (by omega)) (Below.refl _ _) (fun _ => rfl)
    (fun pre W => (Boxed W (w.heap.size + 1) 4 (.bool false) ∧ Boxed W w.heap.size 29 (.slice A len cap)) ∧ (Below w.heap.size w W ∧ ∀ x ∈ pre, x.sn = 1))
    (fun c pre W => (Boxed W (w.heap.size + 1) 4 (.bool false) ∧ Boxed W w.heap.size 29 (.slice A len cap)) ∧ (Below w.heap.size w W ∧ (c = .ret ∧ ∃ x ∈ pre, ¬ x.sn = 1)))
    (OwnFrom.and (OwnFrom.and (Own.from (boxed_own _ _ _) _) (Own.from (boxed_own _ _ _) _)) (OwnFrom.and (ownFrom_below (Nat.le_refl _) (by omega)) (fun _ _ _ _ hs _ _ => hs)))
    (fun c => OwnFrom.and (OwnFrom.and (Own.from (boxed_own _ _ _) _) (Own.from (boxed_own _ _ _) _)) (OwnFrom.and (ownFrom_below (Nat.le_refl _) (by omega)) (fun _ _ _ _ hs _ _ => hs)))
    ⟨⟨bR, bT⟩, hB0, fun x hx => by cases hx⟩
    (fun x a' W => ∃ Bx, w.heap.size + 1 < Bx ∧ yC W Bx x ∧ a' = { tmps := #[.agg #[.slice A len cap], .pointer (some ⟨w.heap.size, 0, none⟩), .pointer (some ⟨w.heap.size + 1, 0, none⟩), .pointer (some ⟨Bx, 0, none⟩), .agg #[.slice A len cap], .func (.func 61) #[] #[.pointer (some ⟨w.heap.size + 1 + 1, 0, none⟩)], x.v, undef, undef, undef, undef, undef, undef, undef, undef], defers := [] })
    (fun x a' _ X Y row hs hg hr => by obtain ⟨Bx, h1, h2, h3⟩ := hs; exact ⟨Bx, h1, vM Bx (fun (_ : Unit) => x) () X Y row h2 hg (fun r e => (hr r e).2), h3⟩)
    ?assign ?body ?done ?stop
  case assign =>
    rintro l pre ⟨sa, sn, sc, i, ka, kn, kc⟩ W K ⟨⟨bS1, bB1⟩, hB1, hp⟩ hK
    dsimp only [NV12.v]
    gi_wp2
    exact hK _ _ ((KeepsOthers.alloc _ _).from _) ((Below.refl _ W).alloc hB1.size _) ⟨⟨bS1.alloc _, bB1.alloc _⟩, hB1.alloc hB1.size _, hp⟩ ⟨W.heap.size, bS1.lt, World.alloc_heap_new W _, rfl⟩
  case body =>
    rintro l pre ⟨sa, sn, sc, i, ka, kn, kc⟩ a' W hl ⟨r, hr⟩ ⟨⟨bS1, bB1⟩, hB1, hp⟩ ⟨Bx, hBx, bX, rfl⟩ hlt
    dsimp only [NV12.v]
    have cS := bS1.cell
    have fS := bS1.frozen
    have cX : W.cell? ⟨Bx, 0, none⟩ = some (.slice sa sn sc) := by simp [World.cell?, show W.heap[Bx]? = _ from bX]
    gi_wp2
    · rename_i hsn
      have hsn : ¬ sn = 1 := fun e => by subst e; simp at hsn
      exact ⟨(KeepsOthers.setCell _ _ _).from _, ⟨bS1.set _, bB1.other (by omega) _⟩, hB1.setCell (p := ⟨w.heap.size + 1, 0, none⟩) (by simp) _, rfl, _, List.mem_append_right _ (List.mem_singleton.2 rfl), hsn⟩
    · rename_i hsn
      have hsn : sn = 1 := by simp at hsn; omega
      refine ⟨KeepsFrom.refl _ _, Below.refl _ _, ⟨bS1, bB1⟩, hB1, fun x hx => ?_⟩
      rcases List.mem_append.1 hx with h | h
      · exact hp x h
      · rw [List.mem_singleton] at h; rw [h]; exact hsn
  case done =>
    rintro D zs W hD rfl ⟨⟨bS1, bB1⟩, hB1, hp⟩ hK
    have cS := bS1.cell
    have fS := bS1.frozen
    have cB := bB1.cell
    gi_wp2
    have k2 : (W.setCell ⟨w.heap.size + 1, 0, none⟩ (.bool (decide (0 < len)))).heap[D]? = some (.deferred (some [])) := (KeepsOthers.setCell W ⟨w.heap.size + 1, 0, none⟩ _).same D _ hK rfl
    have hB2 := hB1.setCell (p := ⟨w.heap.size + 1, 0, none⟩) (by simp) (.bool (decide (0 < len)))
    have cS2 := (bS1.set (.bool (decide (0 < len)))).cell
    have cS3 := cell_kept cS2 (grownBy_putObj' _ D (.deferred none)) (fun r e => by cases e; exact ⟨_, k2, rfl⟩)
    refine ⟨by simp, .inl ⟨_, _, rfl, run_takeDeferred k2, ?_⟩⟩
    refine ⟨.bool (decide (0 < len)), ?_, ⟨decide (0 < len), rfl, ?_⟩, hB2.trans (belowK_b (w := w) (Nat.le_refl _) _ D _ _ (by omega) k2 rfl rfl)⟩
    · simp only [results, show Try.f18.results = #[.cell 2 4] by kernel_rfl]
      simp [loadVar, asAddr, go_sem, cS3]
    · rw [decide_eq_true_eq]; exact ⟨fun h => ⟨hp, h⟩, fun h => h.2⟩
  case stop =>
    rintro D c pre W hD ⟨k, hk, rfl⟩ ⟨⟨bS1, bB1⟩, hB1, rfl, x, hx, hx1⟩ hK
    have cS := bS1.cell
    gi_wp2
    have cS3 := cell_kept cS (grownBy_putObj' _ D (.deferred none)) (fun r e => by cases e; exact ⟨_, hK, rfl⟩)
    refine ⟨by simp, .inl ⟨_, _, rfl, run_takeDeferred hK, ?_⟩⟩
    refine ⟨.bool false, ?_, ⟨false, rfl, ?_⟩, hB1.trans (belowK_b (w := w) (Nat.le_refl _) _ D _ _ (by omega) hK rfl rfl)⟩
    · simp only [results, show Try.f18.results = #[.cell 2 4] by kernel_rfl]
      simp [loadVar, asAddr, go_sem, cS3]
    · refine ⟨fun h => (by cases h), fun h => absurd (h.1 x (wS hk hx)) hx1⟩

theorem xB {T : List b7} {f : Nat → NV12} (h : ∀ i, i < T.length → (f i).sn = (T.getD i nd0).1.length ∧ (f i).i = (T.getD i nd0).2.1) : ((∀ x ∈ fq f T.length, x.sn = 1) ∧ 0 < T.length) ↔ l7 T = true := by
  unfold l7
  rw [Bool.and_eq_true, decide_eq_true_eq, List.all_eq_true]
  refine and_congr_left fun _ => ⟨fun h1 x hx => ?_, fun h1 x hx => ?_⟩
  · obtain ⟨i, hi, rfl⟩ := List.getElem_of_mem hx
    obtain ⟨a, b⟩ := h i hi
    have e : T.getD i nd0 = T[i] := by simp [List.getD, hi]
    rw [e] at a b
    unfold cmL
    by_cases e1 : T[i].2.1 = -1
    · have := h1 (f i) (List.mem_filter.2 ⟨List.mem_map.2 ⟨i, List.mem_range.2 hi, rfl⟩, decide_eq_true (by rw [b]; exact e1)⟩)
      rw [decide_eq_true (show T[i].1.length = 1 by omega)]; simp
    · rw [decide_eq_false e1]; rfl
  · obtain ⟨h2, h3⟩ := List.mem_filter.1 hx
    obtain ⟨i, hi, rfl⟩ := List.mem_map.1 h2
    have hi := List.mem_range.1 hi
    obtain ⟨a, b⟩ := h i hi
    have h4 := h1 (T.getD i nd0) (by rw [List.getD, List.getElem?_eq_getElem hi]; exact List.getElem_mem hi)
    unfold cmL at h4
    rw [decide_eq_true (show (T.getD i nd0).2.1 = -1 by rw [← b]; exact of_decide_eq_true h3)] at h4
    rw [a]
    simpa using h4
theorem w7 (T : List b7) (hT : T.length ≤ 1000000) : bP Try.prog 18 [.agg [.list ndT T]] (.one (.bool (l7 T))) := by
  refine ⟨⟨_, Try.func18, by kernel_rfl, by kernel_rfl⟩, fun C L σ w vs hP hI ha => ?_⟩
  match vs, ha with
  | [v], ⟨⟨us, hv, hus⟩, _⟩ =>
  match us, hus with
  | [u], ⟨⟨_, hd⟩, _⟩ =>
  subst hv
  have hd : Dat (avd C L σ) w (.list ndT) T [u] := hd
  simp only [Dat] at hd
  obtain ⟨A, c, e, _, _, hr⟩ := hd
  obtain rfl : u = .slice A T.length c := by simpa using e
  have hx : ∀ i, ∃ x : NV12, i < T.length → (x.sn = (T.getD i nd0).1.length ∧ x.i = (T.getD i nd0).2.1) ∧ ∀ b o, A = some ⟨b, o, none⟩ → w.cell? ⟨b, o + i * 3, none⟩ = some (.slice x.sa x.sn x.sc) ∧ w.cell? ⟨b, o + i * 3 + 1, none⟩ = some (.int .i64 x.i) ∧ w.cell? ⟨b, o + i * 3 + 2, none⟩ = some (.slice x.ka x.kn x.kc) := fun i => by
    by_cases hi : i < T.length
    · obtain ⟨b, o, eA, _, _, hc⟩ := hr (by omega)
      obtain ⟨cs, hl, h1, h2⟩ := hc i hi
      have e2 : (List.getD T i ndT.dflt) = T.getD i nd0 := rfl
      rw [e2] at h2
      rcases hq : T.getD i nd0 with ⟨st, inp, ks, un⟩
      rw [hq] at h2
      simp only [ndT, Dat] at h2
      obtain ⟨c1, c2, rfl, ⟨A1, k1, rfl, _⟩, c3, c4, rfl, rfl, c5, c6, rfl, ⟨A2, k2, rfl, _⟩, rfl⟩ := h2
      refine ⟨⟨A1, st.length, k1, inp, A2, ks.length, k2⟩, fun _ => ⟨⟨rfl, rfl⟩, fun b' o' e' => ?_⟩⟩
      rw [eA] at e'
      cases e'
      exact ⟨h1 0 (by decide), h1 1 (by decide), h1 2 (by decide)⟩
    · exact ⟨⟨none, 0, 0, 0, none, 0, 0⟩, fun h => absurd h hi⟩
  obtain ⟨f, hf⟩ := Classical.axiomOfChoice hx
  have hn : pQ w.heap.size w A T.length f := fun h0 => by
    obtain ⟨b, o, eA, _, hlt, _⟩ := hr h0
    exact ⟨b, o, eA, hlt, fun j hj => ((hf j hj).2 b o eA).1, fun j hj => ((hf j hj).2 b o eA).2.1, fun j hj => ((hf j hj).2 b o eA).2.2⟩
  refine (callsIn_wide.1 (zi Fence.wide 6 trivial trivial trivial rfl (by omega) A T.length c f (by omega) w hn)).mono ?_
  rintro e w' ⟨⟨r, h1, h2⟩, h3⟩
  refine ⟨.bool r, h1, ⟨h3.size, h3.os, h3.tape, h3.output, h3.block⟩, rfl, ?_⟩
  have h4 := h2.trans (xB fun i hi => (hf i hi).1)
  show Value.bool r = .bool (l7 T)
  cases r <;> cases hq : l7 T <;> simp_all
end
theorem wT  : kC Try.prog 51 [.one .emp] (.int .i64) 3 (([] : List Int)) := by
 refine iX Try.func51 rfl (by kernel_rfl) (Nat.le_of_ble_eq_true rfl) rfl fun C hP hN hB => ?_
 replace hN : C.N = 8 := hN
 simp only [bf, V]
 refine ai fun _ k1 => ?_
 refine ak hP hN rfl ?_
 (refine aj rfl fun _ k0 => ?_; simp only [zO, zT, acs, reduceCtorEq, aa, V, ad, ag, af, ae]; (repeat refine an ?_); (try refine .inl ?_); apply k0; clear k0; simp only [zP, V])
 refine am ?_
 apply k1; clear k1; refine kp [0, 2] ?_
 refine ai fun _ k2 => ?_
 refine ai fun _ k3 => ?_
 refine ak hP hN rfl ?_
 iterate 2 (refine aj rfl fun _ k0 => ?_; simp only [zO, zT, acs, reduceCtorEq, aa, V, ad, ag, af, ae]; (repeat refine an ?_); (try refine .inl ?_); apply k0; clear k0; simp only [zP, V])
 refine am ?_
 apply k3; clear k3; refine kp [0, 2, 4] ?_
 refine cd (fun hc4 => ?_) (fun hc4 => ?_)
 · exfalso; (try simp only [zB, reduceCtorEq] at hc4); all_goals (first | (cases hc4; done) | omega | (simp at hc4; done) | (simp_all; done))
 (try simp only [zB, reduceCtorEq] at hc4)
 refine ay ?_
 apply k2; clear k2; refine kp [0, 2, 4] ?_
 refine ai fun _ k5 => ?_
 refine ak hP hN rfl ?_
 (refine aj rfl fun _ k0 => ?_; simp only [zO, zT, acs, reduceCtorEq, aa, V, ad, ag, af, ae]; (repeat refine an ?_); refine Or.inr (Or.inl (k0 _ ?_)); clear k0; simp only [zP, V])
 iterate 3 (refine aj rfl fun _ k0 => ?_; simp only [zO, zT, acs, reduceCtorEq, aa, V, ad, ag, af, ae]; (repeat refine an ?_); (try refine .inl ?_); apply k0; clear k0; simp only [zP, V])
 refine am ?_
 apply k5; clear k5; refine kp [0, 2, 4] ?_
 refine aF ?_
 refine ⟨by first | exact .inl rfl | exact .inr rfl, _, rfl, _, _, rfl, ?_⟩
 rfl
theorem rF  : kC Try.prog 51 [.one .nils] (.int .i64) 3 (([] : List Int)) := by
 refine iX Try.func51 rfl (by kernel_rfl) (Nat.le_of_ble_eq_true rfl) rfl fun C hP hN hB => ?_
 replace hN : C.N = 8 := hN
 simp only [bf, V]
 refine ai fun _ k1 => ?_
 refine ak hP hN rfl ?_
 (refine aj rfl fun _ k0 => ?_; simp only [zO, zT, acs, reduceCtorEq, aa, V, ad, ag, af, ae]; (repeat refine an ?_); (try refine .inl ?_); apply k0; clear k0; simp only [zP, V])
 refine am ?_
 apply k1; clear k1; refine kp [0, 2] ?_
 refine ai fun _ k2 => ?_
 refine ai fun _ k3 => ?_
 refine ak hP hN rfl ?_
 iterate 2 (refine aj rfl fun _ k0 => ?_; simp only [zO, zT, acs, reduceCtorEq, aa, V, ad, ag, af, ae]; (repeat refine an ?_); (try refine .inl ?_); apply k0; clear k0; simp only [zP, V])
 refine am ?_
 apply k3; clear k3; refine kp [0, 2, 4] ?_
 refine cd (fun hc4 => ?_) (fun hc4 => ?_)
 ·(try simp only [zB, reduceCtorEq] at hc4)
  refine ai fun _ k5 => ?_
  refine ak hP hN rfl ?_
  (refine aj rfl fun _ k0 => ?_; simp only [zO, zT, acs, reduceCtorEq, aa, V, ad, ag, af, ae]; (repeat refine an ?_); (try refine .inl ?_); apply k0; clear k0; simp only [zP, V])
  refine am ?_
  apply k5; clear k5; refine kp [0, 2, 4] ?_
  refine dZ 2 (.int .i64) 3 (by decide) rfl ?_; simp only [au, aG, aM, b6, Nat.zero_add, V]
  refine aF ?_
  refine ⟨by first | exact .inl rfl | exact .inr rfl, _, rfl, _, _, rfl, ?_⟩
  rfl
 · exfalso; (try simp only [zB, reduceCtorEq] at hc4); all_goals (first | (cases hc4; done) | omega | (simp at hc4; done) | (simp_all; done))
theorem sk {P : Program} {f : FuncId} {t t2 : Ty} {e2 : TypeId} {xs : List t.den} {ys : List t2.den} (h0 : xs = [] → kC P f [.one .nils] t2 e2 ys) (h1 : xs = [] → kC P f [.one .emp] t2 e2 ys) (h2 : 0 < xs.length → kC P f [.one (.list t xs)] t2 e2 ys) (hc : fM P f) : kC P f [.one (.list t xs)] t2 e2 ys := by
  refine ⟨hc, fun C L σ w vs hP hI ha => ?_⟩
  obtain ⟨u, rfl, hu⟩ := ha.one
  rcases jK hu with ⟨e, h⟩ | ⟨e, h⟩ | h
  · exact (h0 e).2 C L σ w _ hP hI ⟨h, trivial⟩
  · exact (h1 e).2 C L σ w _ hP hI ⟨h, trivial⟩
  · exact (h2 h).2 C L σ w _ hP hI ⟨hu, trivial⟩
theorem xF (xs : List Int) (h : xs.length ≤ 10000000000000) : kC Try.prog 51 [.one (.list (.int .i64) xs)] (.int .i64) 3 xs :=
  sk (t := .int .i64) (fun e => by subst e; exact rF) (fun e => by subst e; exact wT) (fun h0 => mR xs h0 h) rF.1
set_option maxHeartbeats 1000000 in
theorem xi (m : Mly) (l : List Int) (a : Int) (hm : MOK m) (hs : cK m l) (ha : 0 ≤ a ∧ a < m.inp) (hl : l.length ≤ 1000) : bP Try.prog 72 [m.av, .one (.list (.int .i64) l), .one (.int .i64 a)] (.tup [.one (.list (.int .i64) (if unS m l a l.length = true then [] else cu m l a)), .one (.bool (!unS m l a l.length)), .one (.bool (!unS m l a l.length && smO m l a l.length))]) := by
 have ol := hm.ol
 refine aS Try.func72 rfl (by kernel_rfl) (Nat.le_of_ble_eq_true rfl) rfl fun C hP hN hB => ?_
 replace hN : C.N = 106 := hN
 simp only [bf, V]
 refine ai fun _ k1 => ?_
 refine ak hP hN rfl ?_
 iterate 4 (refine aj rfl fun _ k0 => ?_; simp only [zO, zT, acs, reduceCtorEq, aa, V, ad, ag, af, ae, Mly.av, ah]; (repeat refine an ?_); (try refine .inl ?_); apply k0; clear k0; simp only [zP, V])
 refine am ?_
 apply k1; clear k1; refine kp [0, 1, 2, 3, 6, 7, 8] ?_
 refine ai fun _ k2 => ?_
 refine ak hP hN rfl ?_
 iterate 2 (refine aj rfl fun _ k0 => ?_; simp only [zO, zT, acs, reduceCtorEq, aa, V, ad, ag, af, ae, Mly.av, ah]; (repeat refine an ?_); (try refine .inl ?_); apply k0; clear k0; simp only [zP, V])
 (refine aj rfl fun _ k0 => ?_; simp only [zE, op1, ev, lkp, cY, bK, cj, eW, dW, cE, cW, eh, Nat.div_one, cH, d5, Ty.size, br, dite_true, cQ, Ty.dflt, reduceCtorEq, aa, V, ad, ag, af, ae, Try.el41, Try.td3, Try.td41, Mly.av, ah]; (repeat refine an ?_); (try refine .inl ?_); apply k0; clear k0; simp only [zP, V])
 (refine aj rfl fun _ k0 => ?_; simp only [zO, zT, acs, reduceCtorEq, aa, V, ad, ag, af, ae, Mly.av, ah]; (repeat refine an ?_); (try refine .inl ?_); apply k0; clear k0; simp only [zP, V])
 refine am ?_
 apply k2; clear k2; refine kp [0, 1, 2, 3, 6, 7, 8, 9] ?_
 refine ai fun _ k3 => ?_
 refine ak hP hN rfl ?_
 (refine aj rfl fun _ k0 => ?_; simp only [zO, zT, acs, reduceCtorEq, aa, V, ad, ag, af, ae, Mly.av, ah]; (repeat refine an ?_); (try refine .inl ?_); apply k0; clear k0; simp only [zP, V])
 refine am ?_
 apply k3; clear k3; refine kp [0, 1, 2, 3, 6, 7, 8, 9, 10] ?_
 refine ai fun _ k4 => ?_
 refine ai fun _ k5 => ?_
 refine ak hP hN rfl ?_
 iterate 3 (refine aj rfl fun _ k0 => ?_; simp only [zO, zT, acs, reduceCtorEq, aa, V, ad, ag, af, ae, Mly.av, ah]; (repeat refine an ?_); (try refine .inl ?_); apply k0; clear k0; simp only [zP, V])
 refine am ?_
 apply k5; clear k5; refine kp [0, 1, 2, 3, 6, 7, 8, 9, 10, 18, 19, 20] ?_
 refine aA ?_
 refine aY (fun n6 s6 => ∃ (k : Nat) (v : Nat), (k ≤ l.length) ∧ (∀ k2 j2, k2 < k → j2 < k2 → clB m a (l.getD k2 0) (l.getD j2 0) = false) ∧ n6 = l.length - k ∧ s6 = { env := [(1, .one (.list (.int .i64) l)), (2, .one (.int .i64 a)), (3, .one (.ptr 0 0 0 0)), (6, .one .nils), (7, .one (.bool false)), (8, .one (.bool false)), (9, .one (.row 1 v)), (10, .one (.bool (smO m l a k))), (18, .one (.list (.int .i64) l)), (19, .one (.int .i64 (l.length : Int))), (20, .one (.int .i64 (k : Int)))], L := [.vars 24 [.int .i64 m.inp, .int .i64 m.st, .list (.list (.int .i64)) m.nx, .list (.list (.int .i64)) m.ot], .row (.int .i64) 3 v (cu m (l.take k) a)] }) ?_ ?_
 ·exact ⟨_, _, ax [1, 2, 3, 6, 7, 8, 9, 10, 18, 19, 20], 0, 0, Nat.zero_le _, fun k2 j2 h1 h2 => by omega, rfl, rfl⟩
 rintro n6 s6 ⟨k, v, hk, hu, rfl, rfl⟩
 refine ai fun _ k7 => ?_
 refine ak hP hN rfl ?_
 (refine aj rfl fun _ k0 => ?_; simp only [zO, zT, acs, reduceCtorEq, aa, V, ad, ag, af, ae, Mly.av, ah]; (repeat refine an ?_); (try refine .inl ?_); apply k0; clear k0; simp only [zP, V])
 refine am ?_
 apply k7; clear k7; refine kp [1, 2, 3, 6, 7, 8, 9, 10, 18, 19, 20, 21] ?_
 refine ai fun _ k8 => ?_
 refine cd (fun hc9 => ?_) (fun hc9 => ?_)
 ·(try simp only [zB, reduceCtorEq] at hc9)
  refine ay ?_
  apply k8; clear k8; refine kp [1, 2, 3, 6, 7, 8, 9, 10, 18, 19, 20, 21] ?_
  refine ai fun _ k10 => ?_
  refine aA ?_
  refine ai fun _ k11 => ?_
  refine ak hP hN rfl ?_
  iterate 5 (refine aj rfl fun _ k0 => ?_; simp only [zO, zT, acs, reduceCtorEq, aa, V, ad, ag, af, ae, Mly.av, ah]; (repeat refine an ?_); (try refine .inl ?_); apply k0; clear k0; simp only [zP, V])
  refine am ?_
  apply k11; clear k11; refine kp [1, 2, 3, 6, 7, 8, 9, 10, 11, 12, 18, 19, 20, 21] ?_
  refine ai fun _ k12 => ?_
  refine ai fun _ k13 => ?_
  have hkl : k < l.length := by omega
  have hsk := hs _ (bl hkl)
  have htl : (l.take k).length = k := by rw [List.length_take]; omega
  have q1 := hm.rl (l.getD k 0).toNat (by omega); have q2 := hm.ql (l.getD k 0).toNat (by omega)
  refine ak hP hN rfl ?_
  iterate 2 (refine aj rfl fun _ k0 => ?_; simp only [zO, zT, acs, reduceCtorEq, aa, V, ad, ag, af, ae, Mly.av, ah, htl]; (repeat refine an ?_); (try refine .inl ?_); apply k0; clear k0; simp only [zP, V])
  (refine aj rfl fun _ k0 => ?_; simp only [zE, op1, ev, lkp, cY, bK, gz, bnd, Ty.size, cj, eW, dW, cE, cW, eh, Nat.div_one, cH, d5, br, dite_true, reduceCtorEq, aa, V, ad, ag, af, ae, Try.el41, Try.td3, Try.td41, Mly.av, ah, htl]; (repeat refine an ?_); (try refine .inl ?_); apply k0; clear k0; simp only [zP, V])
  iterate 2 (refine aj rfl fun _ k0 => ?_; simp only [zO, zT, acs, reduceCtorEq, aa, V, ad, ag, af, ae, Mly.av, ah, htl]; (repeat refine an ?_); (try refine .inl ?_); apply k0; clear k0; simp only [zP, V])
  refine am ?_
  apply k13; clear k13; refine kp [1, 2, 3, 6, 7, 8, 9, 10, 11, 12, 18, 19, 20, 21, 27, 28, 29] ?_
  refine aA ?_
  refine aY (fun n14 s14 => ∃ (j : Nat), (j ≤ k) ∧ (∀ j2, j2 < j → clB m a (l.getD k 0) (l.getD j2 0) = false) ∧ n14 = k - j ∧ s14 = { env := [(1, .one (.list (.int .i64) l)), (2, .one (.int .i64 a)), (3, .one (.ptr 0 0 0 0)), (6, .one .nils), (7, .one (.bool false)), (8, .one (.bool false)), (9, .one (.row 1 v)), (10, .one (.bool (smO m l a k))), (11, .one (.int .i64 (k : Int))), (12, .one (.int .i64 (l.getD k 0))), (18, .one (.list (.int .i64) l)), (19, .one (.int .i64 (l.length : Int))), (20, .one (.int .i64 (k : Int))), (27, .one (.list (.int .i64) (l.take k))), (28, .one (.int .i64 (k : Int))), (29, .one (.int .i64 (j : Int)))], L := [.vars 24 [.int .i64 m.inp, .int .i64 m.st, .list (.list (.int .i64)) m.nx, .list (.list (.int .i64)) m.ot], .row (.int .i64) 3 v (cu m (l.take k) a)] }) ?_ ?_
  ·exact ⟨_, _, ax [1, 2, 3, 6, 7, 8, 9, 10, 11, 12, 18, 19, 20, 27, 28, 29], 0, Nat.zero_le _, fun j2 h => by omega, rfl, rfl⟩
  rintro n14 s14 ⟨j, hj, hq, rfl, rfl⟩
  refine ai fun _ k15 => ?_
  refine ak hP hN rfl ?_
  (refine aj rfl fun _ k0 => ?_; simp only [zO, zT, acs, reduceCtorEq, aa, V, ad, ag, af, ae, Mly.av, ah]; (repeat refine an ?_); (try refine .inl ?_); apply k0; clear k0; simp only [zP, V])
  refine am ?_
  apply k15; clear k15; refine kp [1, 2, 3, 6, 7, 8, 9, 10, 11, 12, 18, 19, 20, 27, 28, 29, 30] ?_
  refine ai fun _ k16 => ?_
  refine cd (fun hc17 => ?_) (fun hc17 => ?_)
  ·(try simp only [zB, reduceCtorEq] at hc17)
   refine ay ?_
   apply k16; clear k16; refine kp [1, 2, 3, 6, 7, 8, 9, 10, 11, 12, 18, 19, 20, 27, 28, 29, 30] ?_
   refine ai fun _ k18 => ?_
   refine aA ?_
   refine ai fun _ k19 => ?_
   have hjl : j < l.length := by omega
   have hsj := hs _ (bl hjl)
   have hgj : (l.take k).getD j 0 = (l.getD j 0) := by simp [List.getD, show j < k by omega]
   have q3 := hm.rl (l.getD j 0).toNat (by omega); have q4 := hm.ql (l.getD j 0).toNat (by omega)
   refine ak hP hN rfl ?_
   iterate 3 (refine aj rfl fun _ k0 => ?_; simp only [zO, zT, acs, reduceCtorEq, aa, V, ad, ag, af, ae, Mly.av, ah, hgj]; (repeat refine an ?_); (try refine .inl ?_); apply k0; clear k0; simp only [zP, V])
   refine am ?_
   apply k19; clear k19; refine kp [1, 2, 3, 6, 7, 8, 9, 10, 11, 12, 14, 18, 19, 20, 27, 28, 29, 30] ?_
   refine ai fun _ k20 => ?_
   refine bn hP hN Try.mixed rfl ?_
   iterate 18 (refine aj rfl fun _ k0 => ?_; simp only [zO, zT, acs, reduceCtorEq, aa, V, ad, ag, af, ae, Mly.av, ah]; (repeat refine an ?_); (try refine .inl ?_); apply k0; clear k0; simp only [zP, V])
   refine' aO (want := true) 17 rfl (m := 50) (by simp only [zP, aa, V]; exact rfl) (by kernel_rfl) rfl rfl rfl rfl rfl (fun hg21 => ?a21) ?b21 ?c21
   case a21 =>
    have hq21 := hg21; (try simp only [zB, reduceCtorEq] at hg21); simp only [zE]
    iterate 17 (refine bg rfl fun _ k0 => ?_; simp only [zO, zT, acs, reduceCtorEq, aa, V, ad, ag, af, ae, Mly.av, ah]; (repeat refine an ?_); (try refine .inl ?_); apply k0; clear k0; simp only [zP, V])
    (refine aj rfl fun _ k0 => ?_; simp only [zO, zT, acs, reduceCtorEq, aa, V, ad, ag, af, ae, Mly.av, ah]; (repeat refine an ?_); (try refine .inl ?_); apply k0; clear k0; simp only [zP, V])
    refine am ?_
    refine ⟨by simp only [zP, aa, V]; exact rfl, rfl, ?_, rfl⟩; (repeat refine aP rfl ?_); exact bo (by exact rfl) hq21
   case b21 => exact cr
   simp only [bb, aT]
   refine am ?_
   refine ⟨by kernel_rfl, ?_⟩
   apply k20; clear k20; refine kp [1, 2, 3, 6, 7, 8, 9, 10, 11, 12, 14, 18, 19, 20, 27, 28, 29, 30, 68] ?_
   refine cd (fun hc22 => ?_) (fun hc22 => ?_)
   ·(try simp only [zB, reduceCtorEq] at hc22)
    have hy : clB m a (l.getD k 0) (l.getD j 0) = true := by have h9 := hc22; unfold clB Mly.out Mly.nxt; simpa using h9
    have hun : unS m l a l.length = true := y5 hkl (by omega) hy
    refine ai fun _ k23 => ?_
    refine ak hP hN rfl ?_
    iterate 3 (refine aj rfl fun _ k0 => ?_; simp only [zO, zT, acs, reduceCtorEq, aa, V, ad, ag, af, ae, Mly.av, ah]; (repeat refine an ?_); (try refine .inl ?_); apply k0; clear k0; simp only [zP, V])
    refine am ?_
    apply k23; clear k23; refine kp [1, 2, 3, 6, 7, 8, 9, 10, 11, 12, 14, 18, 19, 20, 27, 28, 29, 30, 68] ?_
    refine aF ?_
    refine ⟨nr, _, rfl, ?_⟩; simp only [zF, zP, aa, V, Mly.av, ah]
    first
    | (rw [hun]; exact cg ⟨aU (bq rfl), aU (.refl _), aU (.refl _), trivial⟩)
    | (rw [hun, hkw, aI]; exact VLE.of_eq rfl)
   (try simp only [zB, reduceCtorEq] at hc22)
   have hy : clB m a (l.getD k 0) (l.getD j 0) = false := by have h9 := hc22; unfold clB Mly.out Mly.nxt; rw [Bool.and_eq_false_iff, decide_eq_false_iff_not, decide_eq_false_iff_not]; exact h9
   refine ay ?_
   apply k18; clear k18; refine kp [1, 2, 3, 6, 7, 8, 9, 10, 11, 12, 14, 18, 19, 20, 27, 28, 29, 30, 68] ?_
   refine ak hP hN rfl ?_
   iterate 2 (refine aj rfl fun _ k0 => ?_; simp only [zO, zT, acs, reduceCtorEq, aa, V, ad, ag, af, ae, Mly.av, ah]; (repeat refine an ?_); (try refine .inl ?_); apply k0; clear k0; simp only [zP, V])
   refine am ?_
   refine ⟨_, _, ?_, ax [1, 2, 3, 6, 7, 8, 9, 10, 11, 12, 18, 19, 20, 27, 28, 29], j + 1, by omega, fun j2 h2 => ?_, rfl, rfl⟩
   · omega
   · by_cases e : j2 = j
     · rw [e]; exact hy
     · exact hq j2 (by omega)
  (try simp only [zB, reduceCtorEq] at hc17)
  refine aV ?_
  apply k12; clear k12; refine kp [1, 2, 3, 6, 7, 8, 9, 10, 11, 12, 18, 19, 20, 27, 28, 29, 30] ?_
  refine ai fun _ k24 => ?_
  have hs0 := hs _ (bl (w := l) (i := 0) (by omega))
  have q5 := hm.ql (l.getD 0 0).toNat (by omega)
  have hjk : j = k := by omega
  have hnl : (cu m (l.take k) a).length = k := by unfold cu; rw [aD]; exact htl
  have hcl : ∀ k2 j2, k2 < k + 1 → j2 < k2 → clB m a (l.getD k2 0) (l.getD j2 0) = false := fun k2 j2 h1 h2 => by
    by_cases e : k2 = k
    · rw [e]; exact hq j2 (by omega)
    · exact hu k2 j2 (by omega) h2
  have hsm := xp m l a k
  refine bn hP hN Try.mixed rfl ?_
  iterate 2 (refine aj rfl fun _ k0 => ?_; simp only [zO, zT, acs, reduceCtorEq, aa, V, ad, ag, af, ae, Mly.av, ah]; (repeat refine an ?_); (try refine .inl ?_); apply k0; clear k0; simp only [zP, V])
  refine' aO (want := true) 19 rfl (m := 71) (by simp only [zP, aa, V]; exact rfl) (by kernel_rfl) rfl rfl rfl rfl rfl (fun hg25 => ?a25) ?b25 ?c25
  case a25 =>
   have hq25 := hg25; (try simp only [zB, reduceCtorEq] at hg25); simp only [zE]
   iterate 19 (refine bg rfl fun _ k0 => ?_; simp only [zO, zT, acs, reduceCtorEq, aa, V, ad, ag, af, ae, Mly.av, ah]; (repeat refine an ?_); (try refine .inl ?_); apply k0; clear k0; simp only [zP, V])
   (refine aj rfl fun _ k0 => ?_; simp only [zO, zT, acs, reduceCtorEq, aa, V, ad, ag, af, ae, Mly.av, ah]; (repeat refine an ?_); (try refine .inl ?_); apply k0; clear k0; simp only [zP, V])
   refine am ?_
   refine ⟨by simp only [zP, aa, V]; exact rfl, rfl, ?_, rfl⟩; (repeat refine aP rfl ?_); exact bo (by exact rfl) hq25
  case b25 => exact cr
  simp only [bb, aT]
  (refine aj rfl fun _ k0 => ?_; simp only [zO, zT, acs, reduceCtorEq, aa, V, ad, ag, af, ae, Mly.av, ah]; (repeat refine an ?_); (try refine .inl ?_); apply k0; clear k0; simp only [zP, V])
  refine am ?_
  refine ⟨by kernel_rfl, ?_⟩
  apply k24; clear k24; refine kp [1, 2, 3, 6, 7, 8, 9, 10, 11, 12, 18, 19, 20, 27, 28, 29, 30] ?_
  refine ak hP hN rfl ?_
  iterate 12 (refine aj rfl fun _ k0 => ?_; simp only [zO, zT, acs, reduceCtorEq, aa, V, ad, ag, af, ae, Mly.av, ah]; (repeat refine an ?_); (try refine .inl ?_); apply k0; clear k0; simp only [zP, V])
  refine am ?_
  apply k10; clear k10; refine kp [1, 2, 3, 6, 7, 8, 9, 10, 11, 12, 18, 19, 20, 27, 28, 29, 30] ?_
  refine ak hP hN rfl ?_
  iterate 2 (refine aj rfl fun _ k0 => ?_; simp only [zO, zT, acs, reduceCtorEq, aa, V, ad, ag, af, ae, Mly.av, ah]; (repeat refine an ?_); (try refine .inl ?_); apply k0; clear k0; simp only [zP, V])
  refine am ?_
  refine ⟨_, _, ?_, ax [1, 2, 3, 6, 7, 8, 9, 10, 18, 19, 20], k + 1, v + 1, by omega, hcl, rfl, ?_⟩
  · omega
  · rw [nj hkl, hsm]; rfl
 (try simp only [zB, reduceCtorEq] at hc9)
 refine aV ?_
 apply k4; clear k4; refine kp [1, 2, 3, 6, 7, 8, 9, 10, 18, 19, 20, 21] ?_
 refine ai fun _ k26 => ?_
 refine cq 1 rfl ?_; simp only [aH, bh, zS, aa, and_self, and_true, true_and, and_false, false_and, if_true, if_false, eq_self, reduceCtorEq, Nat.one_ne_zero, Nat.zero_ne_one]
 have hkw : k = l.length := by omega
 have hun : unS m l a l.length = false := zz fun k2 j2 h1 h2 => hu k2 j2 (by omega) h2
 refine ak hP hN rfl ?_
 iterate 5 (refine aj rfl fun _ k0 => ?_; simp only [zO, zT, acs, reduceCtorEq, aa, V, ad, ag, af, ae, Mly.av, ah]; (repeat refine an ?_); (try refine .inl ?_); apply k0; clear k0; simp only [zP, V])
 refine am ?_
 apply k26; clear k26; refine kp [1, 2, 3, 6, 7, 8, 9, 10, 18, 19, 20, 21] ?_
 refine aF ?_
 refine ⟨nr, _, rfl, ?_⟩; simp only [zF, zP, aa, V, Mly.av, ah]
 first
 | (rw [hun]; exact cg ⟨aU (bq rfl), aU (.refl _), aU (.refl _), trivial⟩)
 | (rw [hun, hkw, aI]; exact VLE.of_eq rfl)
theorem pL (xs : List Int) (hx : kO xs) (hl : xs.length ≤ 1000000) : bP Try.prog 71 [.one (.list (.int .i64) xs)] (.one (.str (ge xs))) := by
 refine aS Try.func71 rfl (by kernel_rfl) (Nat.le_of_ble_eq_true rfl) rfl fun C hP hN hB => ?_
 replace hN : C.N = 23 := hN
 simp only [bf, V]
 refine ai fun _ k1 => ?_
 refine ak hP hN rfl ?_
 (refine aj rfl fun _ k0 => ?_; simp only [zO, zT, acs, reduceCtorEq, aa, V, ad, ag, af, ae, ew]; (repeat refine an ?_); (try refine .inl ?_); apply k0; clear k0; simp only [zP, V])
 refine am ?_
 apply k1; clear k1; refine kp [0, 2] ?_
 refine ai fun _ k2 => ?_
 refine ak hP hN rfl ?_
 iterate 2 (refine aj rfl fun _ k0 => ?_; simp only [zO, zT, acs, reduceCtorEq, aa, V, ad, ag, af, ae, ew]; (repeat refine an ?_); (try refine .inl ?_); apply k0; clear k0; simp only [zP, V])
 (refine aj rfl fun _ k0 => ?_; simp only [zE, op1, ev, lkp, cY, bK, cj, eW, dW, cE, cW, eh, Nat.div_one, cH, d5, Ty.size, br, dite_true, cQ, Ty.dflt, reduceCtorEq, aa, V, ad, ag, af, ae, Try.el129, Try.el41, Try.td129, Try.td3, Try.td41, ew]; (repeat refine an ?_); (try refine .inl ?_); apply k0; clear k0; simp only [zP, V])
 (refine aj rfl fun _ k0 => ?_; simp only [zO, zT, acs, reduceCtorEq, aa, V, ad, ag, af, ae, ew]; (repeat refine an ?_); (try refine .inl ?_); apply k0; clear k0; simp only [zP, V])
 refine am ?_
 apply k2; clear k2; refine kp [0, 2, 3] ?_
 refine ai fun _ k3 => ?_
 refine ai fun _ k4 => ?_
 refine ak hP hN rfl ?_
 iterate 3 (refine aj rfl fun _ k0 => ?_; simp only [zO, zT, acs, reduceCtorEq, aa, V, ad, ag, af, ae, ew]; (repeat refine an ?_); (try refine .inl ?_); apply k0; clear k0; simp only [zP, V])
 refine am ?_
 apply k4; clear k4; refine kp [0, 2, 3, 9, 10, 11] ?_
 refine aA ?_
 refine aY (fun n5 s5 => ∃ (k : Nat) (v : Nat), (k ≤ xs.length) ∧ n5 = xs.length - k ∧ s5 = { env := [(2, .one (.str [])), (3, .one (.row 0 v)), (9, .one (.list (.int .i64) xs)), (10, .one (.int .i64 (xs.length : Int))), (11, .one (.int .i64 (k : Int)))], L := [.row (.int .u8) 5 v (xs.take k)] }) ?_ ?_
 ·exact ⟨_, _, ax [2, 3, 9, 10, 11], 0, 0, Nat.zero_le _, rfl, rfl⟩
 rintro n5 s5 ⟨k, v, hk, rfl, rfl⟩
 refine ai fun _ k6 => ?_
 refine ak hP hN rfl ?_
 (refine aj rfl fun _ k0 => ?_; simp only [zO, zT, acs, reduceCtorEq, aa, V, ad, ag, af, ae, ew]; (repeat refine an ?_); (try refine .inl ?_); apply k0; clear k0; simp only [zP, V])
 refine am ?_
 apply k6; clear k6; refine kp [2, 3, 9, 10, 11, 12] ?_
 refine ai fun _ k7 => ?_
 refine cd (fun hc8 => ?_) (fun hc8 => ?_)
 ·(try simp only [zB, reduceCtorEq] at hc8)
  refine ay ?_
  apply k7; clear k7; refine kp [2, 3, 9, 10, 11, 12] ?_
  refine ai fun _ k9 => ?_
  refine aA ?_
  refine ai fun _ k10 => ?_
  refine ak hP hN rfl ?_
  iterate 3 (refine aj rfl fun _ k0 => ?_; simp only [zO, zT, acs, reduceCtorEq, aa, V, ad, ag, af, ae, ew]; (repeat refine an ?_); (try refine .inl ?_); apply k0; clear k0; simp only [zP, V])
  refine am ?_
  apply k10; clear k10; refine kp [2, 3, 5, 9, 10, 11, 12] ?_
  have hxk := hx _ (bl (w := xs) (i := k) (by omega))
  have htl : (xs.take k).length = k := by rw [List.length_take]; omega
  refine ak hP hN rfl ?_
  iterate 2 (refine aj rfl fun _ k0 => ?_; simp only [zO, zT, acs, reduceCtorEq, aa, V, ad, ag, af, ae, ew]; (repeat refine an ?_); (try refine .inl ?_); apply k0; clear k0; simp only [zP, V])
  (refine aj rfl fun _ k0 => ?_; simp only [zE, op1, ev, lkp, cY, bK, gk, dt, cb, dj, rep, br, bI, ci, Ty.size, cj, eW, dW, cE, cW, eh, Nat.div_one, cH, d5, dite_true, reduceCtorEq, aa, V, ad, ag, af, ae, Try.el129, Try.td1, Try.td129, Try.td3, Try.td5, ew]; (repeat refine an ?_); (try refine .inl ?_); apply k0; clear k0; simp only [zP, V])
  iterate 3 (refine aj rfl fun _ k0 => ?_; simp only [zO, zT, acs, reduceCtorEq, aa, V, ad, ag, af, ae, ew]; (repeat refine an ?_); (try refine .inl ?_); apply k0; clear k0; simp only [zP, V])
  refine am ?_
  apply k9; clear k9; refine kp [2, 3, 5, 9, 10, 11, 12] ?_
  refine ak hP hN rfl ?_
  iterate 2 (refine aj rfl fun _ k0 => ?_; simp only [zO, zT, acs, reduceCtorEq, aa, V, ad, ag, af, ae, ew]; (repeat refine an ?_); (try refine .inl ?_); apply k0; clear k0; simp only [zP, V])
  refine am ?_
  refine ⟨_, _, ?_, ax [2, 3, 9, 10, 11], k + 1, v + 1, by omega, rfl, ?_⟩
  · omega
  · rw [cR (by omega)]; rfl
 (try simp only [zB, reduceCtorEq] at hc8)
 refine aV ?_
 apply k3; clear k3; refine kp [2, 3, 9, 10, 11, 12] ?_
 refine ai fun _ k11 => ?_
 refine cq 0 rfl ?_; simp only [aH, bh, zS, aa, and_self, and_true, true_and, and_false, false_and, if_true, if_false, eq_self, reduceCtorEq, Nat.one_ne_zero, Nat.zero_ne_one]
 have hkw : k = xs.length := by omega
 rw [hkw, aI]
 refine ak hP hN rfl ?_
 (refine aj rfl fun _ k0 => ?_; simp only [zO, zT, acs, reduceCtorEq, aa, V, ad, ag, af, ae, ew]; (repeat refine an ?_); (try refine .inl ?_); apply k0; clear k0; simp only [zP, V])
 (refine aj rfl fun _ k0 => ?_; simp only [zE, op1, ev, lkp, cY, bK, gk, reduceCtorEq, aa, V, ad, ag, af, ae, Try.el129, Try.td129, Try.td9, ew]; refine ⟨⟨_, _, rfl, Try.td5, rfl⟩, k0 _ ?_⟩; clear k0; simp only [zP, V])
 (refine aj rfl fun _ k0 => ?_; simp only [zO, zT, acs, reduceCtorEq, aa, V, ad, ag, af, ae, ew]; (repeat refine an ?_); (try refine .inl ?_); apply k0; clear k0; simp only [zP, V])
 refine am ?_
 apply k11; clear k11; refine kp [2, 3, 9, 10, 11, 12] ?_
 refine aF ?_
 refine ⟨nr, _, rfl, ?_⟩; simp only [zF, zP, aa, V, ew]
 refine VLE.of_eq ?_
 rfl
set_option maxHeartbeats 1500000 in
theorem zm (m : Mly) (l : List Int) (hm : MOK m) (hs : cK m l) (hl : l.length ≤ 1000) : bP Try.prog 52 [m.av, .one (.list (.int .i64) l)] (.tup [.one (.list (.int .i64) ((fdW m l).getD [])), .one (.bool (fdW m l).isSome)]) := by
 refine aS Try.func52 rfl (by kernel_rfl) (Nat.le_of_ble_eq_true rfl) rfl fun C hP hN hB => ?_
 replace hN : C.N = 75 := hN
 simp only [bf, V]
 have hi1 := hm.i1; have hi2 := hm.i2
 have hks0 : (ge l).length ≤ 9223372036854775807 := by unfold ge; rw [aD]; omega
 refine ai fun _ k1 => ?_
 refine ak hP hN rfl ?_
 iterate 3 (refine aj rfl fun _ k0 => ?_; simp only [zO, zT, acs, reduceCtorEq, aa, V, ad, ag, af, ae, Mly.av, ah, aD, bD, Option.map_some, AV.valOf]; (repeat refine And.intro (by first | omega | assumption | exact hks | exact hks0 | exact rfl) ?_); (try refine .inl ?_); apply k0; clear k0; simp only [zP, V])
 refine am ?_
 apply k1; clear k1; refine kp [0, 1, 2, 4, 5] ?_
 refine ai fun _ k2 => ?_
 refine ak hP hN rfl ?_
 (refine aj rfl fun _ k0 => ?_; simp only [zE, op1, ev, lkp, cY, bK, j8, reduceCtorEq, aa, V, ad, ag, af, ae, Try.el41, Try.mk115, Try.td41, Mly.av, ah, aD, bD, Option.map_some, AV.valOf]; (repeat refine And.intro (by first | omega | assumption | exact hks | exact hks0 | exact rfl) ?_); (try refine .inl ?_); apply k0; clear k0; simp only [zP, V])
 (refine aj rfl fun _ k0 => ?_; simp only [zO, zT, acs, reduceCtorEq, aa, V, ad, ag, af, ae, Mly.av, ah, aD, bD, Option.map_some, AV.valOf]; (repeat refine And.intro (by first | omega | assumption | exact hks | exact hks0 | exact rfl) ?_); (try refine .inl ?_); apply k0; clear k0; simp only [zP, V])
 refine aj rfl fun _ k0 => ?_
 refine aK (h := aE (pL l (eS hm hs) (by omega))) rfl rfl (by first | exact rfl | (simp only [ev, zP, aa, V]; exact rfl)) (by simp only [zV, acs, reduceCtorEq, aa, V, ad, ag, af, ae, Mly.av, ah, aD, bD, Option.map_some, AV.valOf]) ?_
 apply k0; clear k0; simp only [zP, V]
 (refine aj rfl fun _ k0 => ?_; simp only [zE, op1, ev, lkp, cY, bK, eu, bD, valOf, reduceCtorEq, aa, V, ad, ag, af, ae, Try.mk115, Mly.av, ah, aD, bD, Option.map_some, AV.valOf]; (repeat refine And.intro (by first | omega | assumption | exact hks | exact hks0 | exact rfl) ?_); (try refine .inl ?_); apply k0; clear k0; simp only [zP, V])
 iterate 2 (refine aj rfl fun _ k0 => ?_; simp only [zO, zT, acs, reduceCtorEq, aa, V, ad, ag, af, ae, Mly.av, ah, aD, bD, Option.map_some, AV.valOf]; (repeat refine And.intro (by first | omega | assumption | exact hks | exact hks0 | exact rfl) ?_); (try refine .inl ?_); apply k0; clear k0; simp only [zP, V])
 refine am ?_
 apply k2; clear k2; refine kp [0, 1, 2, 4, 5, 6] ?_
 refine ai fun _ k3 => ?_
 refine ak hP hN rfl ?_
 iterate 2 (refine aj rfl fun _ k0 => ?_; simp only [zO, zT, acs, reduceCtorEq, aa, V, ad, ag, af, ae, Mly.av, ah, aD, bD, Option.map_some, AV.valOf]; (repeat refine And.intro (by first | omega | assumption | exact hks | exact hks0 | exact rfl) ?_); (try refine .inl ?_); apply k0; clear k0; simp only [zP, V])
 (refine aj rfl fun _ k0 => ?_; simp only [zO, zT, acs, reduceCtorEq, aa, V, ad, ag, af, ae, Mly.av, ah, aD, bD, Option.map_some, AV.valOf]; (repeat refine And.intro (by first | omega | assumption | exact hks | exact hks0 | exact rfl) ?_); refine Or.inr (Or.inl (k0 _ ?_)); clear k0; simp only [zP, V])
 (refine aj rfl fun _ k0 => ?_; simp only [zO, zT, acs, reduceCtorEq, aa, V, ad, ag, af, ae, Mly.av, ah, aD, bD, Option.map_some, AV.valOf]; (repeat refine And.intro (by first | omega | assumption | exact hks | exact hks0 | exact rfl) ?_); (try refine .inl ?_); apply k0; clear k0; simp only [zP, V])
 refine am ?_
 apply k3; clear k3; refine kp [0, 1, 2, 4, 5, 6, 7] ?_
 refine ai fun _ k4 => ?_
 refine ai fun _ k5 => ?_
 refine ak hP hN rfl ?_
 (refine aj rfl fun _ k0 => ?_; simp only [zO, zT, acs, reduceCtorEq, aa, V, ad, ag, af, ae, Mly.av, ah, aD, bD, Option.map_some, AV.valOf]; (repeat refine And.intro (by first | omega | assumption | exact hks | exact hks0 | exact rfl) ?_); (try refine .inl ?_); apply k0; clear k0; simp only [zP, V])
 refine am ?_
 apply k5; clear k5; refine kp [0, 1, 2, 4, 5, 6, 7, 8] ?_
 refine aA ?_
 refine aY (fun n6 s6 => ∃ (k : Nat) (v : Nat) (Q : List SS), (FQ m l.length Q) ∧ ((fV m (4097 - k) k ⟨Q, none⟩).res = lN m l) ∧ n6 = 4097 - k ∧ s6 = { env := [(2, .one (.ptr 0 0 0 0)), (4, .one .nils), (5, .one (.bool false)), (6, .one (.mpv 1)), (7, .one (.row 2 v)), (8, .one (.int .i64 (k : Int)))], L := [.vars 24 [.int .i64 m.inp, .int .i64 m.st, .list (.list (.int .i64)) m.nx, .list (.list (.int .i64)) m.ot], .mp 115 .bool (esB Q), .row (.pair (.list (.int .i64)) (.pair (.list (.int .i64)) .unit)) 117 v (List.map qa Q)] }) ?_ ?_
 ·exact ⟨_, _, ax [2, 4, 5, 6, 7, 8], 0, 0, [(l, [])], FQ.one hs, rfl, rfl, rfl⟩
 rintro n6 s6 ⟨k, v, Q, hQ, hrun, rfl, rfl⟩
 refine ai fun _ k7 => ?_
 refine ai fun _ k8 => ?_
 refine ak hP hN rfl ?_
 iterate 4 (refine aj rfl fun _ k0 => ?_; simp only [zO, zT, acs, reduceCtorEq, aa, V, ad, ag, af, ae, Mly.av, ah, aD, bD, Option.map_some, AV.valOf]; (repeat refine And.intro (by first | omega | assumption | exact hks | exact hks0 | exact rfl) ?_); (try refine .inl ?_); apply k0; clear k0; simp only [zP, V])
 refine am ?_
 apply k8; clear k8; refine kp [2, 4, 5, 6, 7, 8, 24] ?_
 refine cd (fun hc9 => ?_) (fun hc9 => ?_)
 ·(try simp only [zB, reduceCtorEq] at hc9)
  refine ay ?_
  apply k7; clear k7; refine kp [2, 4, 5, 6, 7, 8, 24] ?_
  refine ai fun _ k10 => ?_
  refine aA ?_
  refine ai fun _ k11 => ?_
  refine ak hP hN rfl ?_
  iterate 3 (refine aj rfl fun _ k0 => ?_; simp only [zO, zT, acs, reduceCtorEq, aa, V, ad, ag, af, ae, Mly.av, ah, aD, bD, Option.map_some, AV.valOf]; (repeat refine And.intro (by first | omega | assumption | exact hks | exact hks0 | exact rfl) ?_); (try refine .inl ?_); apply k0; clear k0; simp only [zP, V])
  refine am ?_
  apply k11; clear k11; refine kp [2, 4, 5, 6, 7, 8, 24, 28, 29] ?_
  refine aA ?_
  have hkl : k < Q.length := by omega
  have hql := hQ.le
  refine aY (fun n12 s12 => ∃ (a : Nat) (v2 : Nat) (Q2 : List SS), ((a : Int) ≤ m.inp) ∧ (FQ m l.length Q2) ∧ (k < Q2.length) ∧ ((List.range a).foldl (d8 m k) ⟨Q, none⟩ = ⟨Q2, none⟩) ∧ n12 = m.inp.toNat - a ∧ s12 = { env := [(2, .one (.ptr 0 0 0 0)), (4, .one .nils), (5, .one (.bool false)), (6, .one (.mpv 1)), (7, .one (.row 2 v2)), (8, .one (.int .i64 (k : Int))), (28, .one (.int .i64 m.inp)), (29, .one (.int .i64 (a : Int)))], L := [.vars 24 [.int .i64 m.inp, .int .i64 m.st, .list (.list (.int .i64)) m.nx, .list (.list (.int .i64)) m.ot], .mp 115 .bool (esB Q2), .row (.pair (.list (.int .i64)) (.pair (.list (.int .i64)) .unit)) 117 v2 (List.map qa Q2)] }) ?_ ?_
  ·have hi9 := hm.i1
   exact ⟨_, _, ax [2, 4, 5, 6, 7, 8, 28, 29], 0, v, Q, by omega, hQ, hkl, rfl, rfl, rfl⟩
  rintro n12 s12 ⟨a, v2, Q2, ha, hQ2, hk2, hf, rfl, rfl⟩
  refine ai fun _ k13 => ?_
  refine ak hP hN rfl ?_
  (refine aj rfl fun _ k0 => ?_; simp only [zO, zT, acs, reduceCtorEq, aa, V, ad, ag, af, ae, Mly.av, ah, aD, bD, Option.map_some, AV.valOf]; (repeat refine And.intro (by first | omega | assumption | exact hks | exact hks0 | exact rfl) ?_); (try refine .inl ?_); apply k0; clear k0; simp only [zP, V])
  refine am ?_
  apply k13; clear k13; refine kp [2, 4, 5, 6, 7, 8, 28, 29, 30] ?_
  refine ai fun _ k14 => ?_
  refine cd (fun hc15 => ?_) (fun hc15 => ?_)
  ·(try simp only [zB, reduceCtorEq] at hc15)
   refine ay ?_
   apply k14; clear k14; refine kp [2, 4, 5, 6, 7, 8, 28, 29, 30] ?_
   refine ai fun _ k16 => ?_
   refine aA ?_
   refine ai fun _ k17 => ?_
   refine ak hP hN rfl ?_
   iterate 2 (refine aj rfl fun _ k0 => ?_; simp only [zO, zT, acs, reduceCtorEq, aa, V, ad, ag, af, ae, Mly.av, ah, aD, bD, Option.map_some, AV.valOf]; (repeat refine And.intro (by first | omega | assumption | exact hks | exact hks0 | exact rfl) ?_); (try refine .inl ?_); apply k0; clear k0; simp only [zP, V])
   refine am ?_
   apply k17; clear k17; refine kp [2, 4, 5, 6, 7, 8, 9, 28, 29, 30] ?_
   refine ai fun _ k18 => ?_
   obtain ⟨hsb, hln, hwl⟩ := hQ2.at_ (i := k) (by omega)
   have hgi : ∀ d, (List.map qa Q2).getD k d = ((Q2.getD k ss0).1, ((Q2.getD k ss0).2, ())) := fun d => zH (by omega) d
   have hkL : k < Q2.length := by omega
   have hnx := sX hm (a := (a : Int)) ⟨by omega, by omega⟩ hsb
   have hq2l := hQ2.le
   have hks : (ge (cu m (Q2.getD k ss0).1 (a : Int))).length ≤ 9223372036854775807 := by unfold ge; rw [aD]; omega
   have hlk := xJ (Q := Q2) (eS hm hnx.1) (fun s h => eS hm (hQ2.st s h))
   refine bn hP hN Try.mixed rfl ?_
   iterate 7 (refine aj rfl fun _ k0 => ?_; simp only [zO, zT, acs, reduceCtorEq, aa, V, ad, ag, af, ae, Mly.av, ah, aD, bD, Option.map_some, AV.valOf, hgi]; (repeat refine And.intro (by first | omega | assumption | exact hks | exact hks0 | exact rfl) ?_); (try refine .inl ?_); apply k0; clear k0; simp only [zP, V])
   refine aj rfl fun _ k0 => ?_
   refine aK (h := aE (xi m (Q2.getD k ss0).1 (a : Int) hm hsb (by omega) (by omega))) rfl rfl (by first | exact rfl | (simp only [ev, zP, aa, V]; exact rfl)) (by simp only [zV, acs, reduceCtorEq, aa, V, ad, ag, af, ae, Mly.av, ah, aD, bD, Option.map_some, AV.valOf, hgi]) ?_
   apply k0; clear k0; simp only [zP, V]
   iterate 7 (refine aj rfl fun _ k0 => ?_; simp only [zO, zT, acs, reduceCtorEq, aa, V, ad, ag, af, ae, Mly.av, ah, aD, bD, Option.map_some, AV.valOf, hgi]; (repeat refine And.intro (by first | omega | assumption | exact hks | exact hks0 | exact rfl) ?_); (try refine .inl ?_); apply k0; clear k0; simp only [zP, V])
   refine am ?_
   refine ⟨by kernel_rfl, ?_⟩
   apply k18; clear k18; refine kp [2, 4, 5, 6, 7, 8, 9, 10, 11, 12, 28, 29, 30] ?_
   refine ai fun _ k19 => ?_
   refine ai fun _ k20 => ?_
   refine ak hP hN rfl ?_
   iterate 2 (refine aj rfl fun _ k0 => ?_; simp only [zO, zT, acs, reduceCtorEq, aa, V, ad, ag, af, ae, Mly.av, ah, aD, bD, Option.map_some, AV.valOf]; (repeat refine And.intro (by first | omega | assumption | exact hks | exact hks0 | exact rfl) ?_); (try refine .inl ?_); apply k0; clear k0; simp only [zP, V])
   refine am ?_
   apply k20; clear k20; refine kp [2, 4, 5, 6, 7, 8, 9, 10, 11, 12, 28, 29, 30, 45] ?_
   refine cd (fun hc21 => ?_) (fun hc21 => ?_)
   ·(try simp only [zB, reduceCtorEq] at hc21)
    have hun : unS m (Q2.getD k ss0).1 a (Q2.getD k ss0).1.length = true := by simpa using hc21
    have hst := yX hun
    refine aV ?_
    apply k16; clear k16; refine kp [2, 4, 5, 6, 7, 8, 9, 10, 11, 12, 28, 29, 30, 45] ?_
    refine ak hP hN rfl ?_
    iterate 2 (refine aj rfl fun _ k0 => ?_; simp only [zO, zT, acs, reduceCtorEq, aa, V, ad, ag, af, ae, Mly.av, ah, aD, bD, Option.map_some, AV.valOf]; (repeat refine And.intro (by first | omega | assumption | exact hks | exact hks0 | exact rfl) ?_); (try refine .inl ?_); apply k0; clear k0; simp only [zP, V])
    refine am ?_
    first
    | (refine ⟨_, _, ?_, ax [2, 4, 5, 6, 7, 8, 28, 29], a + 1, v2, Q2, by omega, hQ2, hk2, (iI hf).trans hst, rfl, rfl⟩
       omega)
    | (refine ⟨_, _, ?_, ax [2, 4, 5, 6, 7, 8, 28, 29], a + 1, v2 + 1, Q2 ++ [(fg m Q2 k a, dS Q2 k a)], by omega, hQ2.snoc hnx.1 (hnx.2.trans hln) (by unfold dS; rw [aq]; simp only [au, aG]; omega) (by omega), by rw [aq]; omega, (iI hf).trans hst, rfl, ?_⟩
       · omega
       · rw [show esB (Q2 ++ [(fg m Q2 k a, dS Q2 k a)]) = _ from (pB (x := fg m Q2 k a) (w := dS Q2 k a) (eS hm hnx.1) (fun s h => eS hm (hQ2.st s h)) hps).symm, List.map_append]; rfl)
   (try simp only [zB, reduceCtorEq] at hc21)
   have hun : unS m (Q2.getD k ss0).1 a (Q2.getD k ss0).1.length = false := by simpa using hc21
   have hun2 : ¬ unS m (Q2.getD k ss0).1 a (Q2.getD k ss0).1.length = true := by rw [hun]; decide
   refine ay ?_
   apply k19; clear k19; refine kp [2, 4, 5, 6, 7, 8, 9, 10, 11, 12, 28, 29, 30, 45] ?_
   refine ai fun _ k22 => ?_
   rw [if_neg hun2]
   refine ak hP hN rfl ?_
   iterate 5 (refine aj rfl fun _ k0 => ?_; simp only [zO, zT, acs, reduceCtorEq, aa, V, ad, ag, af, ae, Mly.av, ah, aD, bD, Option.map_some, AV.valOf, hgi]; (repeat refine And.intro (by first | omega | assumption | exact hks | exact hks0 | exact rfl) ?_); (try refine .inl ?_); apply k0; clear k0; simp only [zP, V])
   refine aj rfl fun _ k0 => ?_
   refine aK (h := lp (xF (Q2.getD k ss0).2 (by omega))) rfl rfl (by first | exact rfl | (simp only [ev, zP, aa, V]; exact rfl)) (by simp only [zV, acs, reduceCtorEq, aa, V, ad, ag, af, ae, Mly.av, ah, aD, bD, Option.map_some, AV.valOf, hgi]) ?_
   apply k0; clear k0; simp only [zP, V]
   iterate 4 (refine aj rfl fun _ k0 => ?_; simp only [zO, zT, acs, reduceCtorEq, aa, V, ad, ag, af, ae, Mly.av, ah, aD, bD, Option.map_some, AV.valOf, hgi]; (repeat refine And.intro (by first | omega | assumption | exact hks | exact hks0 | exact rfl) ?_); (try refine .inl ?_); apply k0; clear k0; simp only [zP, V])
   refine am ?_
   apply k22; clear k22; refine kp [2, 4, 5, 6, 7, 8, 9, 10, 11, 12, 13, 28, 29, 30, 45] ?_
   refine ai fun _ k23 => ?_
   refine ai fun _ k24 => ?_
   refine cq 3 rfl ?_; simp only [aH, bh, zS, aa, and_self, and_true, true_and, and_false, false_and, if_true, if_false, eq_self, reduceCtorEq, Nat.one_ne_zero, Nat.zero_ne_one]
   refine cP (n := 3) (L1 := [_, _, _]) rfl rfl (by rw [hB]; decide) rfl rfl ?_
   refine ak hP hN rfl ?_
   iterate 2 (refine aj rfl fun _ k0 => ?_; simp only [zO, zT, acs, reduceCtorEq, aa, V, ad, ag, af, ae, Mly.av, ah, aD, bD, Option.map_some, AV.valOf]; (repeat refine And.intro (by first | omega | assumption | exact hks | exact hks0 | exact rfl) ?_); (try refine .inl ?_); apply k0; clear k0; simp only [zP, V])
   refine am ?_
   apply k24; clear k24; refine kp [2, 4, 5, 6, 7, 8, 9, 10, 11, 12, 13, 28, 29, 30, 45, 56] ?_
   refine cd (fun hc25 => ?_) (fun hc25 => ?_)
   ·(try simp only [zB, reduceCtorEq] at hc25)
    have hsm : smO m (Q2.getD k ss0).1 a (Q2.getD k ss0).1.length = false := by have h9 := hc25; rw [hun] at h9; simpa using h9
    have hfd := wG hrun hkl hQ.le (by omega) hf (by rw [ww hun hsm])
    refine ai fun _ k26 => ?_
    refine ak hP hN rfl ?_
    iterate 3 (refine aj rfl fun _ k0 => ?_; simp only [zO, zT, acs, reduceCtorEq, aa, V, ad, ag, af, ae, Mly.av, ah, aD, bD, Option.map_some, AV.valOf]; (repeat refine And.intro (by first | omega | assumption | exact hks | exact hks0 | exact rfl) ?_); (try refine .inl ?_); apply k0; clear k0; simp only [zP, V])
    refine am ?_
    apply k26; clear k26; refine kp [2, 4, 5, 6, 7, 8, 9, 10, 11, 12, 13, 28, 29, 30, 45, 56] ?_
    refine aF ?_
    refine ⟨nr, _, rfl, ?_⟩; simp only [zF, zP, aa, V, Mly.av, ah, aD, bD, Option.map_some, AV.valOf]
    rw [hfd]
    first
    | exact VLE.of_eq rfl
    | exact cg ⟨aU (bq rfl), aU (.refl _), trivial⟩
   (try simp only [zB, reduceCtorEq] at hc25)
   have hsm : smO m (Q2.getD k ss0).1 a (Q2.getD k ss0).1.length = true := by have h9 := hc25; rw [hun] at h9; simpa using h9
   refine ay ?_
   apply k23; clear k23; refine kp [2, 4, 5, 6, 7, 8, 9, 10, 11, 12, 13, 28, 29, 30, 45, 56] ?_
   refine ai fun _ k27 => ?_
   refine ai fun _ k28 => ?_
   refine ak hP hN rfl ?_
   iterate 2 (refine aj rfl fun _ k0 => ?_; simp only [zO, zT, acs, reduceCtorEq, aa, V, ad, ag, af, ae, Mly.av, ah, aD, bD, Option.map_some, AV.valOf, hlk]; (repeat refine And.intro (by first | omega | assumption | exact hks | exact hks0 | exact rfl) ?_); (try refine .inl ?_); apply k0; clear k0; simp only [zP, V])
   refine aj rfl fun _ k0 => ?_
   refine aK (h := aE (pL (cu m (Q2.getD k ss0).1 (a : Int)) (eS hm hnx.1) (by omega))) rfl rfl (by first | exact rfl | (simp only [ev, zP, aa, V]; exact rfl)) (by simp only [zV, acs, reduceCtorEq, aa, V, ad, ag, af, ae, Mly.av, ah, aD, bD, Option.map_some, AV.valOf, hlk]) ?_
   apply k0; clear k0; simp only [zP, V]
   (refine aj rfl fun _ k0 => ?_; simp only [zE, op1, ev, lkp, cY, bK, ke, bD, VK.ac, reduceCtorEq, aa, V, ad, ag, af, ae, Try.mk115, Try.td4, Mly.av, ah, aD, bD, Option.map_some, AV.valOf, hlk]; (repeat refine And.intro (by first | omega | assumption | exact hks | exact hks0 | exact rfl) ?_); (try refine .inl ?_); apply k0; clear k0; simp only [zP, V])
   refine am ?_
   apply k28; clear k28; refine kp [2, 4, 5, 6, 7, 8, 9, 10, 11, 12, 13, 28, 29, 30, 45, 56, 61] ?_
   refine cd (fun hc29 => ?_) (fun hc29 => ?_)
   ·(try simp only [zB, reduceCtorEq] at hc29)
    have hps : dK Q2 (fg m Q2 k a) < Q2.length := by have h9 := hc29; unfold fg; simpa using h9
    have hst := wF hun hsm hps
    refine aV ?_
    apply k16; clear k16; refine kp [2, 4, 5, 6, 7, 8, 9, 10, 11, 12, 13, 28, 29, 30, 45, 56, 61] ?_
    refine ak hP hN rfl ?_
    iterate 2 (refine aj rfl fun _ k0 => ?_; simp only [zO, zT, acs, reduceCtorEq, aa, V, ad, ag, af, ae, Mly.av, ah, aD, bD, Option.map_some, AV.valOf]; (repeat refine And.intro (by first | omega | assumption | exact hks | exact hks0 | exact rfl) ?_); (try refine .inl ?_); apply k0; clear k0; simp only [zP, V])
    refine am ?_
    first
    | (refine ⟨_, _, ?_, ax [2, 4, 5, 6, 7, 8, 28, 29], a + 1, v2, Q2, by omega, hQ2, hk2, (iI hf).trans hst, rfl, rfl⟩
       omega)
    | (refine ⟨_, _, ?_, ax [2, 4, 5, 6, 7, 8, 28, 29], a + 1, v2 + 1, Q2 ++ [(fg m Q2 k a, dS Q2 k a)], by omega, hQ2.snoc hnx.1 (hnx.2.trans hln) (by unfold dS; rw [aq]; simp only [au, aG]; omega) (by omega), by rw [aq]; omega, (iI hf).trans hst, rfl, ?_⟩
       · omega
       · rw [show esB (Q2 ++ [(fg m Q2 k a, dS Q2 k a)]) = _ from (pB (x := fg m Q2 k a) (w := dS Q2 k a) (eS hm hnx.1) (fun s h => eS hm (hQ2.st s h)) hps).symm, List.map_append]; rfl)
   (try simp only [zB, reduceCtorEq] at hc29)
   have hps : ¬ dK Q2 (fg m Q2 k a) < Q2.length := by have h9 := hc29; unfold fg; simpa using h9
   refine ay ?_
   apply k27; clear k27; refine kp [2, 4, 5, 6, 7, 8, 9, 10, 11, 12, 13, 28, 29, 30, 45, 56, 61] ?_
   refine ai fun _ k30 => ?_
   refine ai fun _ k31 => ?_
   refine ak hP hN rfl ?_
   iterate 3 (refine aj rfl fun _ k0 => ?_; simp only [zO, zT, acs, reduceCtorEq, aa, V, ad, ag, af, ae, Mly.av, ah, aD, bD, Option.map_some, AV.valOf]; (repeat refine And.intro (by first | omega | assumption | exact hks | exact hks0 | exact rfl) ?_); (try refine .inl ?_); apply k0; clear k0; simp only [zP, V])
   refine am ?_
   apply k31; clear k31; refine kp [2, 4, 5, 6, 7, 8, 9, 10, 11, 12, 13, 28, 29, 30, 45, 56, 61, 64] ?_
   refine cd (fun hc32 => ?_) (fun hc32 => ?_)
   ·(try simp only [zB, reduceCtorEq] at hc32)
    have hfd := wG hrun hkl hQ.le (by omega) hf (by rw [vV hun hsm hps (by omega)])
    refine ai fun _ k33 => ?_
    refine ak hP hN rfl ?_
    iterate 2 (refine aj rfl fun _ k0 => ?_; simp only [zO, zT, acs, reduceCtorEq, aa, V, ad, ag, af, ae, Mly.av, ah, aD, bD, Option.map_some, AV.valOf]; (repeat refine And.intro (by first | omega | assumption | exact hks | exact hks0 | exact rfl) ?_); (try refine .inl ?_); apply k0; clear k0; simp only [zP, V])
    refine am ?_
    apply k33; clear k33; refine kp [2, 4, 5, 6, 7, 8, 9, 10, 11, 12, 13, 28, 29, 30, 45, 56, 61, 64] ?_
    refine aF ?_
    refine ⟨nr, _, rfl, ?_⟩; simp only [zF, zP, aa, V, Mly.av, ah, aD, bD, Option.map_some, AV.valOf]
    rw [hfd]
    first
    | exact VLE.of_eq rfl
    | exact cg ⟨aU (bq rfl), aU (.refl _), trivial⟩
   (try simp only [zB, reduceCtorEq] at hc32)
   have hst := wN hun hsm hps (by omega)
   refine ay ?_
   apply k30; clear k30; refine kp [2, 4, 5, 6, 7, 8, 9, 10, 11, 12, 13, 28, 29, 30, 45, 56, 61, 64] ?_
   refine ai fun _ k34 => ?_
   refine ak hP hN rfl ?_
   iterate 2 (refine aj rfl fun _ k0 => ?_; simp only [zO, zT, acs, reduceCtorEq, aa, V, ad, ag, af, ae, Mly.av, ah, aD, bD, Option.map_some, AV.valOf]; (repeat refine And.intro (by first | omega | assumption | exact hks | exact hks0 | exact rfl) ?_); (try refine .inl ?_); apply k0; clear k0; simp only [zP, V])
   refine aj rfl fun _ k0 => ?_
   refine aK (h := aE (pL (cu m (Q2.getD k ss0).1 (a : Int)) (eS hm hnx.1) (by omega))) rfl rfl (by first | exact rfl | (simp only [ev, zP, aa, V]; exact rfl)) (by simp only [zV, acs, reduceCtorEq, aa, V, ad, ag, af, ae, Mly.av, ah, aD, bD, Option.map_some, AV.valOf]) ?_
   apply k0; clear k0; simp only [zP, V]
   (refine aj rfl fun _ k0 => ?_; simp only [zE, op1, ev, lkp, cY, bK, eu, bD, valOf, reduceCtorEq, aa, V, ad, ag, af, ae, Try.mk115, Mly.av, ah, aD, bD, Option.map_some, AV.valOf]; (repeat refine And.intro (by first | omega | assumption | exact hks | exact hks0 | exact rfl) ?_); (try refine .inl ?_); apply k0; clear k0; simp only [zP, V])
   refine am ?_
   apply k34; clear k34; refine kp [2, 4, 5, 6, 7, 8, 9, 10, 11, 12, 13, 28, 29, 30, 45, 56, 61, 64] ?_
   refine ak hP hN rfl ?_
   iterate 7 (refine aj rfl fun _ k0 => ?_; simp only [zO, zT, acs, reduceCtorEq, aa, V, ad, ag, af, ae, Mly.av, ah, aD, bD, Option.map_some, AV.valOf]; (repeat refine And.intro (by first | omega | assumption | exact hks | exact hks0 | exact rfl) ?_); (try refine .inl ?_); apply k0; clear k0; simp only [zP, V])
   refine am ?_
   apply k16; clear k16; refine kp [2, 4, 5, 6, 7, 8, 9, 10, 11, 12, 13, 28, 29, 30, 45, 56, 61, 64] ?_
   refine ak hP hN rfl ?_
   iterate 2 (refine aj rfl fun _ k0 => ?_; simp only [zO, zT, acs, reduceCtorEq, aa, V, ad, ag, af, ae, Mly.av, ah, aD, bD, Option.map_some, AV.valOf]; (repeat refine And.intro (by first | omega | assumption | exact hks | exact hks0 | exact rfl) ?_); (try refine .inl ?_); apply k0; clear k0; simp only [zP, V])
   refine am ?_
   first
   | (refine ⟨_, _, ?_, ax [2, 4, 5, 6, 7, 8, 28, 29], a + 1, v2, Q2, by omega, hQ2, hk2, (iI hf).trans hst, rfl, rfl⟩
      omega)
   | (refine ⟨_, _, ?_, ax [2, 4, 5, 6, 7, 8, 28, 29], a + 1, v2 + 1, Q2 ++ [(fg m Q2 k a, dS Q2 k a)], by omega, hQ2.snoc hnx.1 (hnx.2.trans hln) (by unfold dS; rw [aq]; simp only [au, aG]; omega) (by omega), by rw [aq]; omega, (iI hf).trans hst, rfl, ?_⟩
      · omega
      · rw [show esB (Q2 ++ [(fg m Q2 k a, dS Q2 k a)]) = _ from (pB (x := fg m Q2 k a) (w := dS Q2 k a) (eS hm hnx.1) (fun s h => eS hm (hQ2.st s h)) hps).symm, List.map_append]; rfl)
  (try simp only [zB, reduceCtorEq] at hc15)
  refine aV ?_
  apply k10; clear k10; refine kp [2, 4, 5, 6, 7, 8, 28, 29, 30] ?_
  refine ak hP hN rfl ?_
  iterate 3 (refine aj rfl fun _ k0 => ?_; simp only [zO, zT, acs, reduceCtorEq, aa, V, ad, ag, af, ae, Mly.av, ah, aD, bD, Option.map_some, AV.valOf]; (repeat refine And.intro (by first | omega | assumption | exact hks | exact hks0 | exact rfl) ?_); (try refine .inl ?_); apply k0; clear k0; simp only [zP, V])
  refine am ?_
  refine ⟨_, _, ?_, ax [2, 4, 5, 6, 7, 8], k + 1, v2, Q2, hQ2, Al hrun hkl hQ.le (by rw [show m.inp.toNat = a by omega]; exact hf), rfl, rfl⟩
  have := hQ.le
  omega
 (try simp only [zB, reduceCtorEq] at hc9)
 refine aV ?_
 apply k4; clear k4; refine kp [2, 4, 5, 6, 7, 8, 24] ?_
 refine ai fun _ k35 => ?_
 have hfd := AZ hrun (by omega)
 refine ak hP hN rfl ?_
 iterate 2 (refine aj rfl fun _ k0 => ?_; simp only [zO, zT, acs, reduceCtorEq, aa, V, ad, ag, af, ae, Mly.av, ah, aD, bD, Option.map_some, AV.valOf]; (repeat refine And.intro (by first | omega | assumption | exact hks | exact hks0 | exact rfl) ?_); (try refine .inl ?_); apply k0; clear k0; simp only [zP, V])
 refine am ?_
 apply k35; clear k35; refine kp [2, 4, 5, 6, 7, 8, 24] ?_
 refine aF ?_
 refine ⟨nr, _, rfl, ?_⟩; simp only [zF, zP, aa, V, Mly.av, ah, aD, bD, Option.map_some, AV.valOf]
 rw [hfd]
 first
 | exact VLE.of_eq rfl
 | exact cg ⟨aU (bq rfl), aU (.refl _), trivial⟩
set_option maxHeartbeats 4000000 in
theorem yK (f : Nat) (m : Mly) (hm : MOK m) (IH : ∀ (ini cur w : List Int) (n : Nat) (fl : List Value), 4098 ≤ f + n → n ≤ 4096 → fl.length = n * 3 → cK m cur → ini.length = cur.length → 0 < cur.length → cur.length ≤ 1000 → dA m w → ep Try.prog [.vars 62 [.int .i64 m.inp, .int .i64 m.st, .list (.list (.int .i64)) m.nx, .list (.list (.int .i64)) m.ot, .rwc 1 n], .rowc 52 3 n (ef fl)] 33 [.one (.ptr 0 0 0 0), .agg [.list (.int .i64) ini, .list (.int .i64) cur], .one (.list (.int .i64) w)] { av := .one (.int .i64 (n : Int)), upd := [(0, .vars 62 [.int .i64 m.inp, .int .i64 m.st, .list (.list (.int .i64)) m.nx, .list (.list (.int .i64)) m.ot, .rwc 1 (n + (cv m f ini cur w n).length)]), (1, .rowc 52 3 (n + (cv m f ini cur w n).length) (ef fl ++ ndC (cv m f ini cur w n)))], fp := [0, 1] }) (ini cur w : List Int) (n : Nat) (fl : List Value) (hf : 4098 ≤ (f + 1) + n) (hn : n ≤ 4096) (hfl : fl.length = n * 3) (hs : cK m cur) (hil : ini.length = cur.length) (h0 : 0 < cur.length) (hl : cur.length ≤ 1000) (hw : dA m w) : ep Try.prog [.vars 62 [.int .i64 m.inp, .int .i64 m.st, .list (.list (.int .i64)) m.nx, .list (.list (.int .i64)) m.ot, .rwc 1 n], .rowc 52 3 n (ef fl)] 33 [.one (.ptr 0 0 0 0), .agg [.list (.int .i64) ini, .list (.int .i64) cur], .one (.list (.int .i64) w)] { av := .one (.int .i64 (n : Int)), upd := [(0, .vars 62 [.int .i64 m.inp, .int .i64 m.st, .list (.list (.int .i64)) m.nx, .list (.list (.int .i64)) m.ot, .rwc 1 (n + (cv m (f + 1) ini cur w n).length)]), (1, .rowc 52 3 (n + (cv m (f + 1) ini cur w n).length) (ef fl ++ ndC (cv m (f + 1) ini cur w n)))], fp := [0, 1] } := by
 refine mw _ _ Try.func33 rfl (by kernel_rfl) (Nat.le_of_ble_eq_true rfl) (by intro k hk; simp only [au, aG, Nat.zero_add, V] at hk; simp only [List.mem_cons, List.not_mem_nil, or_false]; omega) (fun C hP hN hB => ?_)
 replace hB : C.bL.length = 2 := by rw [hB]; rfl
 replace hN : C.N = 123 := hN
 simp only [bf, V]
 refine ai fun _ k1 => ?_
 refine ak hP hN rfl ?_
 iterate 2 (refine aj rfl fun _ k0 => ?_; simp only [zO, zT, acs, reduceCtorEq, aa, V, ad, ag, af, ae, ah, aN, bc, aq, aL, ar]; (repeat refine And.intro (by first | omega | assumption | exact rfl | exact ⟨n, 1, ⟨rfl, rfl, by decide⟩, by omega, by omega⟩) ?_); (try refine .inl ?_); apply k0; clear k0; simp only [zP, V])
 refine am ?_
 apply k1; clear k1; refine kp [0, 1, 2, 4, 6] ?_
 refine ai fun _ k2 => ?_
 have hdv : (ef fl).length / 3 = n := by rw [aN, hfl]; omega
 have hdv2 : fl.length / 3 = n := by omega
 have hxl : (ef fl).length = n * 3 := by rw [aN, hfl]
 refine ak hP hN rfl ?_
 iterate 6 (refine aj rfl fun _ k0 => ?_; simp only [zO, zT, acs, reduceCtorEq, aa, V, ad, ag, af, ae, ah, aN, bc, aq, aL, ar, hdv, hdv2]; (repeat refine And.intro (by first | omega | assumption | exact rfl | exact ⟨n, 1, ⟨rfl, rfl, by decide⟩, by omega, by omega⟩) ?_); (try refine .inl ?_); apply k0; clear k0; simp only [zP, V])
 refine am ?_
 apply k2; clear k2; refine kp [0, 1, 2, 4, 6, 7] ?_
 refine ai fun _ k3 => ?_
 refine jX ?_; simp only [aM, List.append_assoc, b6]
 refine bn hP hN Try.mixed rfl ?_
 iterate 7 (refine aj rfl fun _ k0 => ?_; simp only [zO, zT, acs, reduceCtorEq, aa, V, ad, ag, af, ae, ah, aN, bc, aq, aL, ar, hxl]; (repeat refine And.intro (by first | omega | assumption | exact rfl | exact ⟨n, 1, ⟨rfl, rfl, by decide⟩, by omega, by omega⟩) ?_); (try refine .inl ?_); apply k0; clear k0; simp only [zP, V])
 refine aj rfl fun _ k0 => ?_
 refine aK (h := aE (tO ini (by omega))) rfl rfl (by first | exact rfl | (simp only [ev, zP, aa, V]; exact rfl)) (by simp only [zV, acs, reduceCtorEq, aa, V, ad, ag, af, ae, ah, aN, bc, aq, aL, ar, hxl]) ?_
 apply k0; clear k0; simp only [zP, V]
 (refine aj rfl fun _ k0 => ?_; simp only [zO, zT, acs, reduceCtorEq, aa, V, ad, ag, af, ae, ah, aN, bc, aq, aL, ar, hxl]; (repeat refine And.intro (by first | omega | assumption | exact rfl | exact ⟨n, 1, ⟨rfl, rfl, by decide⟩, by omega, by omega⟩) ?_); (try refine .inl ?_); apply k0; clear k0; simp only [zP, V])
 (refine aj rfl fun _ k0 => ?_; simp only [zO, zT, acs, reduceCtorEq, aa, V, ad, ag, af, ae, ah, aN, bc, aq, aL, ar, hxl]; (repeat refine And.intro (by first | omega | assumption | exact rfl | exact ⟨n, 1, ⟨rfl, rfl, by decide⟩, by omega, by omega⟩) ?_); refine Or.inr (Or.inr (Or.inr (Or.inr ⟨3, by exact rfl, ?_⟩))); refine k0 _ ?_; clear k0; simp only [zP, V])
 iterate 4 (refine aj rfl fun _ k0 => ?_; simp only [zO, zT, acs, reduceCtorEq, aa, V, ad, ag, af, ae, ah, aN, bc, aq, aL, ar, hxl]; (repeat refine And.intro (by first | omega | assumption | exact rfl | exact ⟨n, 1, ⟨rfl, rfl, by decide⟩, by omega, by omega⟩) ?_); (try refine .inl ?_); apply k0; clear k0; simp only [zP, V])
 refine am ?_
 refine ⟨by kernel_rfl, ?_⟩
 apply k3; clear k3; refine kp [0, 1, 2, 4, 6, 7] ?_
 refine ai fun _ k4 => ?_
 refine ai fun _ k5 => ?_
 refine eg (L1 := [_, _, _]) rfl (by rw [hB]; simp) rfl (by simp [dO, bH, cz]) ?_
 refine jE 1 (n * 3 + 2) kdT 58 (by decide) rfl (Ba hxl) ?_
 simp only [zS, au, aG, aM, b6, Nat.zero_add, V, AM hxl]
 have e9 : ∀ a b c : AC, [a, b, c] = a :: b :: c :: ndC [] := fun _ _ _ => rfl
 rw [e9 (.list (.int .i64) ini)]
 have hdv1 : (n * 3 + 3) / 3 = n + 1 := by omega
 refine ak hP hN rfl ?_
 iterate 6 (refine aj rfl fun _ k0 => ?_; simp only [zO, zT, acs, reduceCtorEq, aa, V, ad, ag, af, ae, ah, aN, bc, aq, aL, ar, hfl, hdv1]; (repeat refine And.intro (by first | omega | assumption | exact rfl | exact ⟨n, 1, ⟨rfl, rfl, by decide⟩, by omega, by omega⟩) ?_); (try refine .inl ?_); apply k0; clear k0; simp only [zP, V])
 refine am ?_
 apply k5; clear k5; refine kp [0, 1, 2, 4, 6, 7, 36] ?_
 refine cd (fun hc6 => ?_) (fun hc6 => ?_)
 ·(try simp only [zB, reduceCtorEq] at hc6)
  refine ai fun _ k7 => ?_
  refine ak hP hN rfl ?_
  iterate 2 (refine aj rfl fun _ k0 => ?_; simp only [zO, zT, acs, reduceCtorEq, aa, V, ad, ag, af, ae, ah, aN, bc, aq, aL, ar]; (repeat refine And.intro (by first | omega | assumption | exact rfl | exact ⟨n, 1, ⟨rfl, rfl, by decide⟩, by omega, by omega⟩) ?_); (try refine .inl ?_); apply k0; clear k0; simp only [zP, V])
  refine am ?_
  apply k7; clear k7; refine kp [0, 1, 2, 4, 6, 7, 36] ?_
  refine d9 3 1 (t := kdT) rfl rfl ?_
  simp only [aH, bh, fr3, zS, aa, and_self, and_true, true_and, and_false, false_and, if_true, if_false, eq_self, reduceCtorEq, Nat.one_ne_zero, Nat.zero_ne_one]
  refine dh [6] ?_; simp only [cF, lkp, zE, reduceCtorEq, aa]
  refine cP (n := 3) (L1 := [_, _, _]) rfl rfl (by rw [hB]; simp) rfl (by simp [dO, bH, cz, dm]) ?_
  refine eg (L1 := [_, _]) rfl (by rw [hB]; exact Nat.le_refl _) rfl (by simp [dO, bH, cz, dm]) ?_
  refine aF ?_
  refine ⟨by first | exact .inl rfl | exact .inr rfl, _, rfl, ?_⟩; simp only [zP, aa, V, ah, aN, bc, aq, aL, ar]
  try refine ⟨?_, rfl⟩
  first
  | (rw [eP (by omega)]; all_goals rfl)
  | (rw [eH (by omega) (hW.symm.trans hWn)]; all_goals rfl)
  | (rw [cV (by omega) hW.symm, fE hD hbrk, au, show n + (D.length + 1) = n + 1 + D.length by omega]; all_goals rfl)
  | (rw [hie, aI] at hD
     rw [cV (by omega) hW.symm, hD, au, show n + (D.length + 1) = n + 1 + D.length by omega]; all_goals rfl)
 (try simp only [zB, reduceCtorEq] at hc6)
 refine ay ?_
 apply k4; clear k4; refine kp [0, 1, 2, 4, 6, 7, 36] ?_
 refine ai fun _ k8 => ?_
 refine ai fun _ k9 => ?_
 refine ak hP hN rfl ?_
 iterate 4 (refine aj rfl fun _ k0 => ?_; simp only [zO, zT, acs, reduceCtorEq, aa, V, ad, ag, af, ae, ah, aN, bc, aq, aL, ar]; (repeat refine And.intro (by first | omega | assumption | exact rfl | exact ⟨n, 1, ⟨rfl, rfl, by decide⟩, by omega, by omega⟩) ?_); (try refine .inl ?_); apply k0; clear k0; simp only [zP, V])
 refine' aO (want := true) 4 rfl (m := 41) (by simp only [zP, aa, V]; exact rfl) (by kernel_rfl) rfl rfl rfl rfl rfl (fun hg10 => ?a10) ?b10 ?c10
 case a10 =>
  have hq10 := hg10; (try simp only [zB, reduceCtorEq] at hg10); simp only [zE]
  iterate 4 (refine bg rfl fun _ k0 => ?_; simp only [zO, zT, acs, reduceCtorEq, aa, V, ad, ag, af, ae, ah, aN, bc, aq, aL, ar]; (repeat refine And.intro (by first | omega | assumption | exact rfl | exact ⟨n, 1, ⟨rfl, rfl, by decide⟩, by omega, by omega⟩) ?_); (try refine .inl ?_); apply k0; clear k0; simp only [zP, V])
  (refine aj rfl fun _ k0 => ?_; simp only [zO, zT, acs, reduceCtorEq, aa, V, ad, ag, af, ae, ah, aN, bc, aq, aL, ar]; (repeat refine And.intro (by first | omega | assumption | exact rfl | exact ⟨n, 1, ⟨rfl, rfl, by decide⟩, by omega, by omega⟩) ?_); (try refine .inl ?_); apply k0; clear k0; simp only [zP, V])
  refine am ?_
  refine ⟨by simp only [zP, aa, V]; exact rfl, rfl, ?_, rfl⟩; (repeat refine aP rfl ?_); exact bo (by exact rfl) hq10
 case b10 => exact cr
 simp only [bb, aT]
 refine am ?_
 apply k9; clear k9; refine kp [0, 1, 2, 4, 6, 7, 36, 46] ?_
 refine cd (fun hc11 => ?_) (fun hc11 => ?_)
 ·(try simp only [zB, reduceCtorEq] at hc11)
  refine bn hP hN Try.mixed rfl ?_
  iterate 6 (refine aj rfl fun _ k0 => ?_; simp only [zO, zT, acs, reduceCtorEq, aa, V, ad, ag, af, ae, ah, aN, bc, aq, aL, ar]; (repeat refine And.intro (by first | omega | assumption | exact rfl | exact ⟨n, 1, ⟨rfl, rfl, by decide⟩, by omega, by omega⟩) ?_); (try refine .inl ?_); apply k0; clear k0; simp only [zP, V])
  refine aj rfl fun _ k0 => ?_
  refine aK (h := aE (zm m cur hm hs hl)) rfl rfl (by first | exact rfl | (simp only [ev, zP, aa, V]; exact rfl)) (by simp only [zV, acs, reduceCtorEq, aa, V, ad, ag, af, ae, ah, aN, bc, aq, aL, ar]) ?_
  apply k0; clear k0; simp only [zP, V]
  iterate 4 (refine aj rfl fun _ k0 => ?_; simp only [zO, zT, acs, reduceCtorEq, aa, V, ad, ag, af, ae, ah, aN, bc, aq, aL, ar]; (repeat refine And.intro (by first | omega | assumption | exact rfl | exact ⟨n, 1, ⟨rfl, rfl, by decide⟩, by omega, by omega⟩) ?_); (try refine .inl ?_); apply k0; clear k0; simp only [zP, V])
  refine am ?_
  refine ⟨by kernel_rfl, ?_⟩
  apply k8; clear k8; refine kp [0, 1, 2, 4, 6, 7, 36, 46] ?_
  refine ai fun _ k12 => ?_
  refine ai fun _ k13 => ?_
  obtain ⟨W, hW⟩ : ∃ W, W = gI m ini cur w := ⟨_, rfl⟩
  have hWs : dA m W := by rw [hW]; exact wm hw
  refine o0 2 (v' := .one (.list (.int .i64) W)) rfl (VLE.of_eq (by first | (show AV.one (.list (.int .i64) ((fdW m cur).getD [])) = _; rw [hW]; unfold gI; rw [if_pos (by omega)]; done) | (show AV.one (.list (.int .i64) w) = _; rw [hW]; unfold gI; rw [if_neg (by omega)]; done))) ?_
  refine ak hP hN rfl ?_
  iterate 3 (refine aj rfl fun _ k0 => ?_; simp only [zO, zT, acs, reduceCtorEq, aa, V, ad, ag, af, ae, ah, aN, bc, aq, aL, ar]; (repeat refine And.intro (by first | omega | assumption | exact rfl | exact ⟨n, 1, ⟨rfl, rfl, by decide⟩, by omega, by omega⟩) ?_); (try refine .inl ?_); apply k0; clear k0; simp only [zP, V])
  refine am ?_
  apply k13; clear k13; refine kp [0, 1, 2, 4, 6, 7, 36, 46, 59] ?_
  refine cd (fun hc14 => ?_) (fun hc14 => ?_)
  ·(try simp only [zB, reduceCtorEq] at hc14)
   have hWn : W = [] := List.eq_nil_of_length_eq_zero (by omega)
   refine ai fun _ k15 => ?_
   refine ak hP hN rfl ?_
   iterate 2 (refine aj rfl fun _ k0 => ?_; simp only [zO, zT, acs, reduceCtorEq, aa, V, ad, ag, af, ae, ah, aN, bc, aq, aL, ar]; (repeat refine And.intro (by first | omega | assumption | exact rfl | exact ⟨n, 1, ⟨rfl, rfl, by decide⟩, by omega, by omega⟩) ?_); (try refine .inl ?_); apply k0; clear k0; simp only [zP, V])
   refine am ?_
   apply k15; clear k15; refine kp [0, 1, 2, 4, 6, 7, 36, 46, 59] ?_
   refine d9 3 1 (t := kdT) rfl rfl ?_
   simp only [aH, bh, fr3, zS, aa, and_self, and_true, true_and, and_false, false_and, if_true, if_false, eq_self, reduceCtorEq, Nat.one_ne_zero, Nat.zero_ne_one]
   refine dh [6] ?_; simp only [cF, lkp, zE, reduceCtorEq, aa]
   refine cP (n := 3) (L1 := [_, _, _]) rfl rfl (by rw [hB]; simp) rfl (by simp [dO, bH, cz, dm]) ?_
   refine eg (L1 := [_, _]) rfl (by rw [hB]; exact Nat.le_refl _) rfl (by simp [dO, bH, cz, dm]) ?_
   refine aF ?_
   refine ⟨by first | exact .inl rfl | exact .inr rfl, _, rfl, ?_⟩; simp only [zP, aa, V, ah, aN, bc, aq, aL, ar]
   try refine ⟨?_, rfl⟩
   first
   | (rw [eP (by omega)]; all_goals rfl)
   | (rw [eH (by omega) (hW.symm.trans hWn)]; all_goals rfl)
   | (rw [cV (by omega) hW.symm, fE hD hbrk, au, show n + (D.length + 1) = n + 1 + D.length by omega]; all_goals rfl)
   | (rw [hie, aI] at hD
      rw [cV (by omega) hW.symm, hD, au, show n + (D.length + 1) = n + 1 + D.length by omega]; all_goals rfl)
  (try simp only [zB, reduceCtorEq] at hc14)
  obtain ⟨a0, w2, hWc⟩ : ∃ a0 w2, W = a0 :: w2 := by
    cases W with
    | nil => simp at hc14
    | cons a0 w2 => exact ⟨_, _, rfl⟩
  subst hWc
  refine ay ?_
  apply k12; clear k12; refine kp [0, 1, 2, 4, 6, 7, 36, 46, 59] ?_
  refine ai fun _ k16 => ?_
  have ha0 : 0 ≤ a0 ∧ a0 < m.inp := hWs a0 (aQ ..)
  have hw2 : dA m w2 := fun x hx => hWs x (aJ _ hx)
  refine bn hP hN Try.mixed rfl ?_
  iterate 11 (refine aj rfl fun _ k0 => ?_; simp only [zE, op1, ev, lkp, cY, bK, iB, bM, d7, Nat.mul_one, bS, cL, acs, Ty.dflt, zG, bZ, cA, Ty.size, ne_eq, not_false_eq_true, Int.natCast_one, Int.mul_one, dY, ci, br, reduceCtorEq, aa, V, ad, ag, af, ae, Try.el27, Try.el41, Try.st52, Try.st62, Try.td1, Try.td27, Try.td3, Try.td41, Try.td52, Try.td60, Try.td62, ah, aN, bc, aq, aL, ar, hfl]; (repeat refine And.intro (by first | omega | assumption | exact rfl | exact ⟨n, 1, ⟨rfl, rfl, by decide⟩, by omega, by omega⟩) ?_); (try refine .inl ?_); apply k0; clear k0; simp only [zP, V, yF hxl])
  refine am ?_
  refine ⟨by kernel_rfl, ?_⟩
  apply k16; clear k16; refine kp [0, 1, 2, 4, 6, 7, 36, 46, 59] ?_
  refine ai fun _ k17 => ?_
  refine bn hP hN Try.mixed rfl ?_
  iterate 5 (refine aj rfl fun _ k0 => ?_; simp only [zO, zT, acs, reduceCtorEq, aa, V, ad, ag, af, ae, ah, aN, bc, aq, aL, ar]; (repeat refine And.intro (by first | omega | assumption | exact rfl | exact ⟨n, 1, ⟨rfl, rfl, by decide⟩, by omega, by omega⟩) ?_); (try refine .inl ?_); apply k0; clear k0; simp only [zP, V])
  refine aj rfl fun _ k0 => ?_
  refine aK (h := iW (k := 0) (T := 62) (cs := [.int .i64 m.inp, .int .i64 m.st, .list (.list (.int .i64)) m.nx, .list (.list (.int .i64)) m.ot]) (c := .rwc 1 (n + 1)) rfl (by simp) (fun x => pf m x ini cur a0 hm hs ha0 h0 hl hil _ 0 rfl)) rfl rfl (by first | exact rfl | (simp only [ev, zP, aa, V]; exact rfl)) (by simp only [zV, acs, reduceCtorEq, aa, V, ad, ag, af, ae, ah, aN, bc, aq, aL, ar]) ?_
  apply k0; clear k0; simp only [zP, V]
  iterate 5 (refine aj rfl fun _ k0 => ?_; simp only [zO, zT, acs, reduceCtorEq, aa, V, ad, ag, af, ae, ah, aN, bc, aq, aL, ar]; (repeat refine And.intro (by first | omega | assumption | exact rfl | exact ⟨n, 1, ⟨rfl, rfl, by decide⟩, by omega, by omega⟩) ?_); (try refine .inl ?_); apply k0; clear k0; simp only [zP, V])
  refine am ?_
  refine ⟨by kernel_rfl, ?_⟩
  apply k17; clear k17; refine kp [0, 1, 2, 4, 6, 7, 8, 9, 36, 46, 59] ?_
  refine ai fun _ k18 => ?_
  refine ai fun _ k19 => ?_
  have hkl := fP (ouL m cur a0)
  have hol : (ouL m cur a0).length = cur.length := aD ..
  refine ak hP hN rfl ?_
  iterate 3 (refine aj rfl fun _ k0 => ?_; simp only [zO, zT, acs, reduceCtorEq, aa, V, ad, ag, af, ae, ah, aN, bc, aq, aL, ar]; (repeat refine And.intro (by first | omega | assumption | exact rfl | exact ⟨n, 1, ⟨rfl, rfl, by decide⟩, by omega, by omega⟩) ?_); (try refine .inl ?_); apply k0; clear k0; simp only [zP, V])
  refine am ?_
  apply k19; clear k19; refine kp [0, 1, 2, 4, 6, 7, 8, 9, 36, 46, 59, 80, 81, 82] ?_
  refine aA ?_
  refine aY (fun n20 s20 => ∃ (i : Nat) (D : List b7) (K : List dN), (i ≤ (aC (ouL m cur a0)).length) ∧ (((aC (ouL m cur a0)).take i).foldl (dX n (fun i c k => cv m f i c w2 k) m ini cur a0) ([], []) = (D, K)) ∧ (n + 1 + D.length ≤ 4097) ∧ (K.length ≤ i) ∧ n20 = (aC (ouL m cur a0)).length - i ∧ s20 = { env := [(0, .one (.ptr 0 0 0 0)), (2, .one (.list (.int .i64) (a0 :: w2))), (6, .one (.int .i64 0)), (7, .one (.int .i64 (n : Int))), (9, .one (.list (.pair (.list (.int .i64)) (.pair (.list (.int .i64)) .unit)) (lV m ini cur a0 (aC (ouL m cur a0))))), (80, .one (.list (.int .i64) (aC (ouL m cur a0)))), (81, .one (.int .i64 ((aC (ouL m cur a0)).length : Int))), (82, .one (.int .i64 (i : Int)))], L := [.vars 62 [.int .i64 m.inp, .int .i64 m.st, .list (.list (.int .i64)) m.nx, .list (.list (.int .i64)) m.ot, .rwc 1 (n + 1 + D.length)], .rowc 52 3 (n + 1 + D.length) (ef fl ++ .list (.int .i64) ini :: .int .i64 a0 :: .row 3 K.length :: ndC D), .vars 66 [.list (.int .i64) ini, .list (.int .i64) cur], .row kdT 58 K.length K] }) ?_ ?_
  ·exact ⟨_, _, ax [0, 2, 6, 7, 9, 80, 81, 82], 0, [], [], Nat.zero_le _, rfl, by simp only [aG]; omega, Nat.zero_le _, rfl, rfl⟩
  rintro n20 s20 ⟨i, D, K, hi, hD, hDl, hKl, rfl, rfl⟩
  refine ai fun _ k21 => ?_
  refine ak hP hN rfl ?_
  (refine aj rfl fun _ k0 => ?_; simp only [zO, zT, acs, reduceCtorEq, aa, V, ad, ag, af, ae, ah, aN, bc, aq, aL, ar]; (repeat refine And.intro (by first | omega | assumption | exact rfl | exact ⟨n, 1, ⟨rfl, rfl, by decide⟩, by omega, by omega⟩) ?_); (try refine .inl ?_); apply k0; clear k0; simp only [zP, V])
  refine am ?_
  apply k21; clear k21; refine kp [0, 2, 6, 7, 9, 80, 81, 82, 83] ?_
  refine ai fun _ k22 => ?_
  refine cd (fun hc23 => ?_) (fun hc23 => ?_)
  ·(try simp only [zB, reduceCtorEq] at hc23)
   refine ay ?_
   apply k22; clear k22; refine kp [0, 2, 6, 7, 9, 80, 81, 82, 83] ?_
   refine ai fun _ k24 => ?_
   refine aA ?_
   refine ai fun _ k25 => ?_
   refine ak hP hN rfl ?_
   iterate 5 (refine aj rfl fun _ k0 => ?_; simp only [zO, zT, acs, reduceCtorEq, aa, V, ad, ag, af, ae, ah, aN, bc, aq, aL, ar]; (repeat refine And.intro (by first | omega | assumption | exact rfl | exact ⟨n, 1, ⟨rfl, rfl, by decide⟩, by omega, by omega⟩) ?_); (try refine .inl ?_); apply k0; clear k0; simp only [zP, V])
   refine am ?_
   apply k25; clear k25; refine kp [0, 2, 6, 7, 9, 10, 11, 80, 81, 82, 83] ?_
   refine ai fun _ k26 => ?_
   refine ai fun _ k27 => ?_
   have hdvD : (n * 3 + (D.length * 3 + 1 + 1 + 1)) / 3 = n + 1 + D.length := by omega
   refine ak hP hN rfl ?_
   iterate 6 (refine aj rfl fun _ k0 => ?_; simp only [zO, zT, acs, reduceCtorEq, aa, V, ad, ag, af, ae, ah, aN, bc, aq, aL, ar, hfl, au, hdvD]; (repeat refine And.intro (by first | omega | assumption | exact rfl | exact ⟨n, 1, ⟨rfl, rfl, by decide⟩, by omega, by omega⟩) ?_); (try refine .inl ?_); apply k0; clear k0; simp only [zP, V])
   refine am ?_
   apply k27; clear k27; refine kp [0, 2, 6, 7, 9, 10, 11, 80, 81, 82, 83, 92] ?_
   refine cd (fun hc28 => ?_) (fun hc28 => ?_)
   ·(try simp only [zB, reduceCtorEq] at hc28)
    have hbrk : 4096 < n + 1 + D.length := by omega
    refine aV ?_
    apply k18; clear k18; refine kp [0, 2, 6, 7, 9, 10, 11, 80, 81, 82, 83, 92] ?_
    refine ai fun _ k29 => ?_
    refine ak hP hN rfl ?_
    iterate 2 (refine aj rfl fun _ k0 => ?_; simp only [zO, zT, acs, reduceCtorEq, aa, V, ad, ag, af, ae, ah, aN, bc, aq, aL, ar]; (repeat refine And.intro (by first | omega | assumption | exact rfl | exact ⟨n, 1, ⟨rfl, rfl, by decide⟩, by omega, by omega⟩) ?_); (try refine .inl ?_); apply k0; clear k0; simp only [zP, V])
    refine am ?_
    apply k29; clear k29; refine kp [0, 2, 6, 7, 9, 10, 11, 80, 81, 82, 83, 92] ?_
    refine d9 3 1 (t := kdT) rfl rfl ?_
    simp only [aH, bh, fr3, zS, aa, and_self, and_true, true_and, and_false, false_and, if_true, if_false, eq_self, reduceCtorEq, Nat.one_ne_zero, Nat.zero_ne_one]
    refine dh [6] ?_; simp only [cF, lkp, zE, reduceCtorEq, aa]
    refine cP (n := 3) (L1 := [_, _, _]) rfl rfl (by rw [hB]; simp) rfl (by simp [dO, bH, cz, dm]) ?_
    refine eg (L1 := [_, _]) rfl (by rw [hB]; exact Nat.le_refl _) rfl (by simp [dO, bH, cz, dm]) ?_
    refine aF ?_
    refine ⟨by first | exact .inl rfl | exact .inr rfl, _, rfl, ?_⟩; simp only [zP, aa, V, ah, aN, bc, aq, aL, ar]
    try refine ⟨?_, rfl⟩
    first
    | (rw [eP (by omega)]; all_goals rfl)
    | (rw [eH (by omega) (hW.symm.trans hWn)]; all_goals rfl)
    | (rw [cV (by omega) hW.symm, fE hD hbrk, au, show n + (D.length + 1) = n + 1 + D.length by omega]; all_goals rfl)
    | (rw [hie, aI] at hD
       rw [cV (by omega) hW.symm, hD, au, show n + (D.length + 1) = n + 1 + D.length by omega]; all_goals rfl)
   (try simp only [zB, reduceCtorEq] at hc28)
   refine ay ?_
   apply k26; clear k26; refine kp [0, 2, 6, 7, 9, 10, 11, 80, 81, 82, 83, 92] ?_
   refine ai fun _ k30 => ?_
   have hgi := rZ (m := m) (ini := ini) (cur := cur) (a := a0) (ks := (aC (ouL m cur a0))) (i := i) (by omega)
   have hin : ((aC (ouL m cur a0)).getD i 0) ∈ (aC (ouL m cur a0)) := bl (by omega)
   have hq1 := mQ hm (o := ((aC (ouL m cur a0)).getD i 0)) ha0 hs
   have hq2 := hU m ini cur a0 ((aC (ouL m cur a0)).getD i 0) cur.length
   have hq3 := kd hin
   have hq4 : (bB m cur a0 cur.length ((aC (ouL m cur a0)).getD i 0)).length ≤ 1000 := Nat.le_trans lQ hl
   have hNle := m6 m f (bV m ini cur a0 cur.length ((aC (ouL m cur a0)).getD i 0)) (bB m cur a0 cur.length ((aC (ouL m cur a0)).getD i 0)) w2 (n + 1 + D.length) (by omega)
   have hst9 := mu (n := n) (rec := (fun i c k => cv m f i c w2 k)) (m := m) (ini := ini) (cur := cur) (a := a0) (i := i) (by omega) hD (by omega)
   refine bn hP hN Try.mixed rfl ?_
   iterate 6 (refine aj rfl fun _ k0 => ?_; simp only [zO, zT, acs, reduceCtorEq, aa, V, ad, ag, af, ae, ah, aN, bc, aq, aL, ar, aw, hgi, Int.toNat_one, au, aI, List.drop_succ_cons, List.drop_zero]; (repeat refine And.intro (by first | omega | assumption | exact rfl | exact ⟨n, 1, ⟨rfl, rfl, by decide⟩, by omega, by omega⟩) ?_); (try refine .inl ?_); apply k0; clear k0; simp only [zP, V, List.append_assoc, aM, ← gK])
   (refine aj rfl fun _ k0 => ?_; simp only [zE, op1, ev, lkp, cY, bK, cA, zG, Ty.dflt, Ty.size, Nat.mul_one, ne_eq, not_false_eq_true, Int.natCast_one, Int.mul_one, d7, bS, cL, acs, bZ, gz, bnd, reduceCtorEq, aa, V, ad, ag, af, ae, Try.el41, Try.el91, Try.st66, Try.td3, Try.td41, Try.td60, Try.td66, Try.td91, ah, aN, bc, aq, aL, ar, aw, hgi, Int.toNat_one, au, aI, List.drop_succ_cons, List.drop_zero]; (repeat refine And.intro (by first | omega | assumption | exact rfl | exact ⟨n, 1, ⟨rfl, rfl, by decide⟩, by omega, by omega⟩) ?_); (try refine .inl ?_); apply k0; clear k0; simp only [zP, V, List.append_assoc, aM, ← gK])
   refine aj rfl fun _ k0 => ?_
   refine aK (h := m9 (k := 1) (u := [(0, .vars 62 [.int .i64 m.inp, .int .i64 m.st, .list (.list (.int .i64)) m.nx, .list (.list (.int .i64)) m.ot, .rwc 1 ((n + 1 + D.length) + (cv m f (bV m ini cur a0 cur.length ((aC (ouL m cur a0)).getD i 0)) (bB m cur a0 cur.length ((aC (ouL m cur a0)).getD i 0)) w2 (n + 1 + D.length)).length)])]) rfl (by simp) (fun fl2 hfl2 => nc (A := [_, _]) (E := [_, _]) (IH (bV m ini cur a0 cur.length ((aC (ouL m cur a0)).getD i 0)) (bB m cur a0 cur.length ((aC (ouL m cur a0)).getD i 0)) w2 (n + 1 + D.length) fl2 (by omega) (by omega) (by rw [hfl2]; simp [aN, bc]; omega) hq1 hq2 hq3 hq4 hw2) (by simp [dO, bH, cz]) rfl rfl (by simp) (by intro k hk; simp at hk ⊢; omega))) rfl rfl (by first | exact rfl | (simp only [ev, zP, aa, V]; exact rfl)) (by simp only [zV, acs, reduceCtorEq, aa, V, ad, ag, af, ae, ah, aN, bc, aq, aL, ar, aw, hgi, Int.toNat_one, au, aI, List.drop_succ_cons, List.drop_zero]) ?_
   apply k0; clear k0; simp only [zP, V, List.append_assoc, aM, ← gK]
   (refine aj rfl fun _ k0 => ?_; simp only [zO, zT, acs, reduceCtorEq, aa, V, ad, ag, af, ae, ah, aN, bc, aq, aL, ar, aw, hgi, Int.toNat_one, au, aI, List.drop_succ_cons, List.drop_zero]; (repeat refine And.intro (by first | omega | assumption | exact rfl | exact ⟨n, 1, ⟨rfl, rfl, by decide⟩, by omega, by omega⟩) ?_); (try refine .inl ?_); apply k0; clear k0; simp only [zP, V, List.append_assoc, aM, ← gK])
   refine am ?_
   refine ⟨by kernel_rfl, ?_⟩
   apply k30; clear k30; refine kp [0, 2, 6, 7, 9, 10, 11, 12, 80, 81, 82, 83, 92] ?_
   refine bn hP hN Try.mixed rfl ?_
   iterate 21 (refine aj rfl fun _ k0 => ?_; simp only [zE, op1, ev, lkp, cY, bK, iB, bM, d7, Nat.mul_one, bS, cL, acs, Ty.dflt, zG, bZ, cA, Ty.size, ne_eq, not_false_eq_true, Int.natCast_one, Int.mul_one, iF, cb, ci, dt, dj, rep, br, cj, eW, dW, cE, cW, eh, Nat.div_one, cH, d5, dite_true, dY, reduceCtorEq, aa, V, ad, ag, af, ae, Try.el27, Try.el50, Try.fl58, Try.st52, Try.st58, Try.st62, Try.td1, Try.td2, Try.td27, Try.td3, Try.td50, Try.td52, Try.td58, Try.td60, Try.td62, ah, aN, bc, aq, aL, ar, yZ hxl, hfl]; (repeat refine And.intro (by first | omega | assumption | exact rfl | exact ⟨n, 1, ⟨rfl, rfl, by decide⟩, by omega, by omega⟩) ?_); (try refine .inl ?_); apply k0; clear k0; simp only [zP, V, yq hxl])
   refine am ?_
   refine ⟨by kernel_rfl, ?_⟩
   apply k24; clear k24; refine kp [0, 2, 6, 7, 9, 10, 11, 12, 80, 81, 82, 83, 92] ?_
   refine ak hP hN rfl ?_
   iterate 2 (refine aj rfl fun _ k0 => ?_; simp only [zO, zT, acs, reduceCtorEq, aa, V, ad, ag, af, ae, ah, aN, bc, aq, aL, ar]; (repeat refine And.intro (by first | omega | assumption | exact rfl | exact ⟨n, 1, ⟨rfl, rfl, by decide⟩, by omega, by omega⟩) ?_); (try refine .inl ?_); apply k0; clear k0; simp only [zP, V])
   refine am ?_
   refine ⟨_, _, ?_, ax [0, 2, 6, 7, 9, 80, 81, 82], i + 1, D ++ (cv m f (bV m ini cur a0 cur.length ((aC (ouL m cur a0)).getD i 0)) (bB m cur a0 cur.length ((aC (ouL m cur a0)).getD i 0)) w2 (n + 1 + D.length)), K ++ [(((aC (ouL m cur a0)).getD i 0), ((n + 1 + D.length : Nat) : Int), ())], by omega, hst9, by rw [aq]; omega, by rw [aq]; simp only [au, aG]; omega, rfl, ?_⟩
   · omega
   · simp only [aq, ← Nat.add_assoc]; rfl
  (try simp only [zB, reduceCtorEq] at hc23)
  have hie : i = (aC (ouL m cur a0)).length := by omega
  refine aV ?_
  apply k18; clear k18; refine kp [0, 2, 6, 7, 9, 80, 81, 82, 83] ?_
  refine ai fun _ k31 => ?_
  refine ak hP hN rfl ?_
  iterate 2 (refine aj rfl fun _ k0 => ?_; simp only [zO, zT, acs, reduceCtorEq, aa, V, ad, ag, af, ae, ah, aN, bc, aq, aL, ar]; (repeat refine And.intro (by first | omega | assumption | exact rfl | exact ⟨n, 1, ⟨rfl, rfl, by decide⟩, by omega, by omega⟩) ?_); (try refine .inl ?_); apply k0; clear k0; simp only [zP, V])
  refine am ?_
  apply k31; clear k31; refine kp [0, 2, 6, 7, 9, 80, 81, 82, 83] ?_
  refine d9 3 1 (t := kdT) rfl rfl ?_
  simp only [aH, bh, fr3, zS, aa, and_self, and_true, true_and, and_false, false_and, if_true, if_false, eq_self, reduceCtorEq, Nat.one_ne_zero, Nat.zero_ne_one]
  refine dh [6] ?_; simp only [cF, lkp, zE, reduceCtorEq, aa]
  refine cP (n := 3) (L1 := [_, _, _]) rfl rfl (by rw [hB]; simp) rfl (by simp [dO, bH, cz, dm]) ?_
  refine eg (L1 := [_, _]) rfl (by rw [hB]; exact Nat.le_refl _) rfl (by simp [dO, bH, cz, dm]) ?_
  refine aF ?_
  refine ⟨by first | exact .inl rfl | exact .inr rfl, _, rfl, ?_⟩; simp only [zP, aa, V, ah, aN, bc, aq, aL, ar]
  try refine ⟨?_, rfl⟩
  first
  | (rw [eP (by omega)]; all_goals rfl)
  | (rw [eH (by omega) (hW.symm.trans hWn)]; all_goals rfl)
  | (rw [cV (by omega) hW.symm, fE hD hbrk, au, show n + (D.length + 1) = n + 1 + D.length by omega]; all_goals rfl)
  | (rw [hie, aI] at hD
     rw [cV (by omega) hW.symm, hD, au, show n + (D.length + 1) = n + 1 + D.length by omega]; all_goals rfl)
 (try simp only [zB, reduceCtorEq] at hc11)
 refine ay ?_
 apply k8; clear k8; refine kp [0, 1, 2, 4, 6, 7, 36, 46] ?_
 refine ai fun _ k32 => ?_
 refine ai fun _ k33 => ?_
 obtain ⟨W, hW⟩ : ∃ W, W = gI m ini cur w := ⟨_, rfl⟩
 have hWs : dA m W := by rw [hW]; exact wm hw
 refine o0 2 (v' := .one (.list (.int .i64) W)) rfl (VLE.of_eq (by first | (show AV.one (.list (.int .i64) ((fdW m cur).getD [])) = _; rw [hW]; unfold gI; rw [if_pos (by omega)]; done) | (show AV.one (.list (.int .i64) w) = _; rw [hW]; unfold gI; rw [if_neg (by omega)]; done))) ?_
 refine ak hP hN rfl ?_
 iterate 3 (refine aj rfl fun _ k0 => ?_; simp only [zO, zT, acs, reduceCtorEq, aa, V, ad, ag, af, ae, ah, aN, bc, aq, aL, ar]; (repeat refine And.intro (by first | omega | assumption | exact rfl | exact ⟨n, 1, ⟨rfl, rfl, by decide⟩, by omega, by omega⟩) ?_); (try refine .inl ?_); apply k0; clear k0; simp only [zP, V])
 refine am ?_
 apply k33; clear k33; refine kp [0, 1, 2, 4, 6, 7, 36, 46, 59] ?_
 refine cd (fun hc34 => ?_) (fun hc34 => ?_)
 ·(try simp only [zB, reduceCtorEq] at hc34)
  have hWn : W = [] := List.eq_nil_of_length_eq_zero (by omega)
  refine ai fun _ k35 => ?_
  refine ak hP hN rfl ?_
  iterate 2 (refine aj rfl fun _ k0 => ?_; simp only [zO, zT, acs, reduceCtorEq, aa, V, ad, ag, af, ae, ah, aN, bc, aq, aL, ar]; (repeat refine And.intro (by first | omega | assumption | exact rfl | exact ⟨n, 1, ⟨rfl, rfl, by decide⟩, by omega, by omega⟩) ?_); (try refine .inl ?_); apply k0; clear k0; simp only [zP, V])
  refine am ?_
  apply k35; clear k35; refine kp [0, 1, 2, 4, 6, 7, 36, 46, 59] ?_
  refine d9 3 1 (t := kdT) rfl rfl ?_
  simp only [aH, bh, fr3, zS, aa, and_self, and_true, true_and, and_false, false_and, if_true, if_false, eq_self, reduceCtorEq, Nat.one_ne_zero, Nat.zero_ne_one]
  refine dh [6] ?_; simp only [cF, lkp, zE, reduceCtorEq, aa]
  refine cP (n := 3) (L1 := [_, _, _]) rfl rfl (by rw [hB]; simp) rfl (by simp [dO, bH, cz, dm]) ?_
  refine eg (L1 := [_, _]) rfl (by rw [hB]; exact Nat.le_refl _) rfl (by simp [dO, bH, cz, dm]) ?_
  refine aF ?_
  refine ⟨by first | exact .inl rfl | exact .inr rfl, _, rfl, ?_⟩; simp only [zP, aa, V, ah, aN, bc, aq, aL, ar]
  try refine ⟨?_, rfl⟩
  first
  | (rw [eP (by omega)]; all_goals rfl)
  | (rw [eH (by omega) (hW.symm.trans hWn)]; all_goals rfl)
  | (rw [cV (by omega) hW.symm, fE hD hbrk, au, show n + (D.length + 1) = n + 1 + D.length by omega]; all_goals rfl)
  | (rw [hie, aI] at hD
     rw [cV (by omega) hW.symm, hD, au, show n + (D.length + 1) = n + 1 + D.length by omega]; all_goals rfl)
 (try simp only [zB, reduceCtorEq] at hc34)
 obtain ⟨a0, w2, hWc⟩ : ∃ a0 w2, W = a0 :: w2 := by
   cases W with
   | nil => simp at hc34
   | cons a0 w2 => exact ⟨_, _, rfl⟩
 subst hWc
 refine ay ?_
 apply k32; clear k32; refine kp [0, 1, 2, 4, 6, 7, 36, 46, 59] ?_
 refine ai fun _ k36 => ?_
 have ha0 : 0 ≤ a0 ∧ a0 < m.inp := hWs a0 (aQ ..)
 have hw2 : dA m w2 := fun x hx => hWs x (aJ _ hx)
 refine bn hP hN Try.mixed rfl ?_
 iterate 11 (refine aj rfl fun _ k0 => ?_; simp only [zE, op1, ev, lkp, cY, bK, iB, bM, d7, Nat.mul_one, bS, cL, acs, Ty.dflt, zG, bZ, cA, Ty.size, ne_eq, not_false_eq_true, Int.natCast_one, Int.mul_one, dY, ci, br, reduceCtorEq, aa, V, ad, ag, af, ae, Try.el27, Try.el41, Try.st52, Try.st62, Try.td1, Try.td27, Try.td3, Try.td41, Try.td52, Try.td60, Try.td62, ah, aN, bc, aq, aL, ar, hfl]; (repeat refine And.intro (by first | omega | assumption | exact rfl | exact ⟨n, 1, ⟨rfl, rfl, by decide⟩, by omega, by omega⟩) ?_); (try refine .inl ?_); apply k0; clear k0; simp only [zP, V, yF hxl])
 refine am ?_
 refine ⟨by kernel_rfl, ?_⟩
 apply k36; clear k36; refine kp [0, 1, 2, 4, 6, 7, 36, 46, 59] ?_
 refine ai fun _ k37 => ?_
 refine bn hP hN Try.mixed rfl ?_
 iterate 5 (refine aj rfl fun _ k0 => ?_; simp only [zO, zT, acs, reduceCtorEq, aa, V, ad, ag, af, ae, ah, aN, bc, aq, aL, ar]; (repeat refine And.intro (by first | omega | assumption | exact rfl | exact ⟨n, 1, ⟨rfl, rfl, by decide⟩, by omega, by omega⟩) ?_); (try refine .inl ?_); apply k0; clear k0; simp only [zP, V])
 refine aj rfl fun _ k0 => ?_
 refine aK (h := iW (k := 0) (T := 62) (cs := [.int .i64 m.inp, .int .i64 m.st, .list (.list (.int .i64)) m.nx, .list (.list (.int .i64)) m.ot]) (c := .rwc 1 (n + 1)) rfl (by simp) (fun x => pf m x ini cur a0 hm hs ha0 h0 hl hil _ 0 rfl)) rfl rfl (by first | exact rfl | (simp only [ev, zP, aa, V]; exact rfl)) (by simp only [zV, acs, reduceCtorEq, aa, V, ad, ag, af, ae, ah, aN, bc, aq, aL, ar]) ?_
 apply k0; clear k0; simp only [zP, V]
 iterate 5 (refine aj rfl fun _ k0 => ?_; simp only [zO, zT, acs, reduceCtorEq, aa, V, ad, ag, af, ae, ah, aN, bc, aq, aL, ar]; (repeat refine And.intro (by first | omega | assumption | exact rfl | exact ⟨n, 1, ⟨rfl, rfl, by decide⟩, by omega, by omega⟩) ?_); (try refine .inl ?_); apply k0; clear k0; simp only [zP, V])
 refine am ?_
 refine ⟨by kernel_rfl, ?_⟩
 apply k37; clear k37; refine kp [0, 1, 2, 4, 6, 7, 8, 9, 36, 46, 59] ?_
 refine ai fun _ k38 => ?_
 refine ai fun _ k39 => ?_
 have hkl := fP (ouL m cur a0)
 have hol : (ouL m cur a0).length = cur.length := aD ..
 refine ak hP hN rfl ?_
 iterate 3 (refine aj rfl fun _ k0 => ?_; simp only [zO, zT, acs, reduceCtorEq, aa, V, ad, ag, af, ae, ah, aN, bc, aq, aL, ar]; (repeat refine And.intro (by first | omega | assumption | exact rfl | exact ⟨n, 1, ⟨rfl, rfl, by decide⟩, by omega, by omega⟩) ?_); (try refine .inl ?_); apply k0; clear k0; simp only [zP, V])
 refine am ?_
 apply k39; clear k39; refine kp [0, 1, 2, 4, 6, 7, 8, 9, 36, 46, 59, 80, 81, 82] ?_
 refine aA ?_
 refine aY (fun n40 s40 => ∃ (i : Nat) (D : List b7) (K : List dN), (i ≤ (aC (ouL m cur a0)).length) ∧ (((aC (ouL m cur a0)).take i).foldl (dX n (fun i c k => cv m f i c w2 k) m ini cur a0) ([], []) = (D, K)) ∧ (n + 1 + D.length ≤ 4097) ∧ (K.length ≤ i) ∧ n40 = (aC (ouL m cur a0)).length - i ∧ s40 = { env := [(0, .one (.ptr 0 0 0 0)), (2, .one (.list (.int .i64) (a0 :: w2))), (6, .one (.int .i64 0)), (7, .one (.int .i64 (n : Int))), (9, .one (.list (.pair (.list (.int .i64)) (.pair (.list (.int .i64)) .unit)) (lV m ini cur a0 (aC (ouL m cur a0))))), (80, .one (.list (.int .i64) (aC (ouL m cur a0)))), (81, .one (.int .i64 ((aC (ouL m cur a0)).length : Int))), (82, .one (.int .i64 (i : Int)))], L := [.vars 62 [.int .i64 m.inp, .int .i64 m.st, .list (.list (.int .i64)) m.nx, .list (.list (.int .i64)) m.ot, .rwc 1 (n + 1 + D.length)], .rowc 52 3 (n + 1 + D.length) (ef fl ++ .list (.int .i64) ini :: .int .i64 a0 :: .row 3 K.length :: ndC D), .vars 66 [.list (.int .i64) ini, .list (.int .i64) cur], .row kdT 58 K.length K] }) ?_ ?_
 ·exact ⟨_, _, ax [0, 2, 6, 7, 9, 80, 81, 82], 0, [], [], Nat.zero_le _, rfl, by simp only [aG]; omega, Nat.zero_le _, rfl, rfl⟩
 rintro n40 s40 ⟨i, D, K, hi, hD, hDl, hKl, rfl, rfl⟩
 refine ai fun _ k41 => ?_
 refine ak hP hN rfl ?_
 (refine aj rfl fun _ k0 => ?_; simp only [zO, zT, acs, reduceCtorEq, aa, V, ad, ag, af, ae, ah, aN, bc, aq, aL, ar]; (repeat refine And.intro (by first | omega | assumption | exact rfl | exact ⟨n, 1, ⟨rfl, rfl, by decide⟩, by omega, by omega⟩) ?_); (try refine .inl ?_); apply k0; clear k0; simp only [zP, V])
 refine am ?_
 apply k41; clear k41; refine kp [0, 2, 6, 7, 9, 80, 81, 82, 83] ?_
 refine ai fun _ k42 => ?_
 refine cd (fun hc43 => ?_) (fun hc43 => ?_)
 ·(try simp only [zB, reduceCtorEq] at hc43)
  refine ay ?_
  apply k42; clear k42; refine kp [0, 2, 6, 7, 9, 80, 81, 82, 83] ?_
  refine ai fun _ k44 => ?_
  refine aA ?_
  refine ai fun _ k45 => ?_
  refine ak hP hN rfl ?_
  iterate 5 (refine aj rfl fun _ k0 => ?_; simp only [zO, zT, acs, reduceCtorEq, aa, V, ad, ag, af, ae, ah, aN, bc, aq, aL, ar]; (repeat refine And.intro (by first | omega | assumption | exact rfl | exact ⟨n, 1, ⟨rfl, rfl, by decide⟩, by omega, by omega⟩) ?_); (try refine .inl ?_); apply k0; clear k0; simp only [zP, V])
  refine am ?_
  apply k45; clear k45; refine kp [0, 2, 6, 7, 9, 10, 11, 80, 81, 82, 83] ?_
  refine ai fun _ k46 => ?_
  refine ai fun _ k47 => ?_
  have hdvD : (n * 3 + (D.length * 3 + 1 + 1 + 1)) / 3 = n + 1 + D.length := by omega
  refine ak hP hN rfl ?_
  iterate 6 (refine aj rfl fun _ k0 => ?_; simp only [zO, zT, acs, reduceCtorEq, aa, V, ad, ag, af, ae, ah, aN, bc, aq, aL, ar, hfl, au, hdvD]; (repeat refine And.intro (by first | omega | assumption | exact rfl | exact ⟨n, 1, ⟨rfl, rfl, by decide⟩, by omega, by omega⟩) ?_); (try refine .inl ?_); apply k0; clear k0; simp only [zP, V])
  refine am ?_
  apply k47; clear k47; refine kp [0, 2, 6, 7, 9, 10, 11, 80, 81, 82, 83, 92] ?_
  refine cd (fun hc48 => ?_) (fun hc48 => ?_)
  ·(try simp only [zB, reduceCtorEq] at hc48)
   have hbrk : 4096 < n + 1 + D.length := by omega
   refine aV ?_
   apply k38; clear k38; refine kp [0, 2, 6, 7, 9, 10, 11, 80, 81, 82, 83, 92] ?_
   refine ai fun _ k49 => ?_
   refine ak hP hN rfl ?_
   iterate 2 (refine aj rfl fun _ k0 => ?_; simp only [zO, zT, acs, reduceCtorEq, aa, V, ad, ag, af, ae, ah, aN, bc, aq, aL, ar]; (repeat refine And.intro (by first | omega | assumption | exact rfl | exact ⟨n, 1, ⟨rfl, rfl, by decide⟩, by omega, by omega⟩) ?_); (try refine .inl ?_); apply k0; clear k0; simp only [zP, V])
   refine am ?_
   apply k49; clear k49; refine kp [0, 2, 6, 7, 9, 10, 11, 80, 81, 82, 83, 92] ?_
   refine d9 3 1 (t := kdT) rfl rfl ?_
   simp only [aH, bh, fr3, zS, aa, and_self, and_true, true_and, and_false, false_and, if_true, if_false, eq_self, reduceCtorEq, Nat.one_ne_zero, Nat.zero_ne_one]
   refine dh [6] ?_; simp only [cF, lkp, zE, reduceCtorEq, aa]
   refine cP (n := 3) (L1 := [_, _, _]) rfl rfl (by rw [hB]; simp) rfl (by simp [dO, bH, cz, dm]) ?_
   refine eg (L1 := [_, _]) rfl (by rw [hB]; exact Nat.le_refl _) rfl (by simp [dO, bH, cz, dm]) ?_
   refine aF ?_
   refine ⟨by first | exact .inl rfl | exact .inr rfl, _, rfl, ?_⟩; simp only [zP, aa, V, ah, aN, bc, aq, aL, ar]
   try refine ⟨?_, rfl⟩
   first
   | (rw [eP (by omega)]; all_goals rfl)
   | (rw [eH (by omega) (hW.symm.trans hWn)]; all_goals rfl)
   | (rw [cV (by omega) hW.symm, fE hD hbrk, au, show n + (D.length + 1) = n + 1 + D.length by omega]; all_goals rfl)
   | (rw [hie, aI] at hD
      rw [cV (by omega) hW.symm, hD, au, show n + (D.length + 1) = n + 1 + D.length by omega]; all_goals rfl)
  (try simp only [zB, reduceCtorEq] at hc48)
  refine ay ?_
  apply k46; clear k46; refine kp [0, 2, 6, 7, 9, 10, 11, 80, 81, 82, 83, 92] ?_
  refine ai fun _ k50 => ?_
  have hgi := rZ (m := m) (ini := ini) (cur := cur) (a := a0) (ks := (aC (ouL m cur a0))) (i := i) (by omega)
  have hin : ((aC (ouL m cur a0)).getD i 0) ∈ (aC (ouL m cur a0)) := bl (by omega)
  have hq1 := mQ hm (o := ((aC (ouL m cur a0)).getD i 0)) ha0 hs
  have hq2 := hU m ini cur a0 ((aC (ouL m cur a0)).getD i 0) cur.length
  have hq3 := kd hin
  have hq4 : (bB m cur a0 cur.length ((aC (ouL m cur a0)).getD i 0)).length ≤ 1000 := Nat.le_trans lQ hl
  have hNle := m6 m f (bV m ini cur a0 cur.length ((aC (ouL m cur a0)).getD i 0)) (bB m cur a0 cur.length ((aC (ouL m cur a0)).getD i 0)) w2 (n + 1 + D.length) (by omega)
  have hst9 := mu (n := n) (rec := (fun i c k => cv m f i c w2 k)) (m := m) (ini := ini) (cur := cur) (a := a0) (i := i) (by omega) hD (by omega)
  refine bn hP hN Try.mixed rfl ?_
  iterate 6 (refine aj rfl fun _ k0 => ?_; simp only [zO, zT, acs, reduceCtorEq, aa, V, ad, ag, af, ae, ah, aN, bc, aq, aL, ar, aw, hgi, Int.toNat_one, au, aI, List.drop_succ_cons, List.drop_zero]; (repeat refine And.intro (by first | omega | assumption | exact rfl | exact ⟨n, 1, ⟨rfl, rfl, by decide⟩, by omega, by omega⟩) ?_); (try refine .inl ?_); apply k0; clear k0; simp only [zP, V, List.append_assoc, aM, ← gK])
  (refine aj rfl fun _ k0 => ?_; simp only [zE, op1, ev, lkp, cY, bK, cA, zG, Ty.dflt, Ty.size, Nat.mul_one, ne_eq, not_false_eq_true, Int.natCast_one, Int.mul_one, d7, bS, cL, acs, bZ, gz, bnd, reduceCtorEq, aa, V, ad, ag, af, ae, Try.el41, Try.el91, Try.st66, Try.td3, Try.td41, Try.td60, Try.td66, Try.td91, ah, aN, bc, aq, aL, ar, aw, hgi, Int.toNat_one, au, aI, List.drop_succ_cons, List.drop_zero]; (repeat refine And.intro (by first | omega | assumption | exact rfl | exact ⟨n, 1, ⟨rfl, rfl, by decide⟩, by omega, by omega⟩) ?_); (try refine .inl ?_); apply k0; clear k0; simp only [zP, V, List.append_assoc, aM, ← gK])
  refine aj rfl fun _ k0 => ?_
  refine aK (h := m9 (k := 1) (u := [(0, .vars 62 [.int .i64 m.inp, .int .i64 m.st, .list (.list (.int .i64)) m.nx, .list (.list (.int .i64)) m.ot, .rwc 1 ((n + 1 + D.length) + (cv m f (bV m ini cur a0 cur.length ((aC (ouL m cur a0)).getD i 0)) (bB m cur a0 cur.length ((aC (ouL m cur a0)).getD i 0)) w2 (n + 1 + D.length)).length)])]) rfl (by simp) (fun fl2 hfl2 => nc (A := [_, _]) (E := [_, _]) (IH (bV m ini cur a0 cur.length ((aC (ouL m cur a0)).getD i 0)) (bB m cur a0 cur.length ((aC (ouL m cur a0)).getD i 0)) w2 (n + 1 + D.length) fl2 (by omega) (by omega) (by rw [hfl2]; simp [aN, bc]; omega) hq1 hq2 hq3 hq4 hw2) (by simp [dO, bH, cz]) rfl rfl (by simp) (by intro k hk; simp at hk ⊢; omega))) rfl rfl (by first | exact rfl | (simp only [ev, zP, aa, V]; exact rfl)) (by simp only [zV, acs, reduceCtorEq, aa, V, ad, ag, af, ae, ah, aN, bc, aq, aL, ar, aw, hgi, Int.toNat_one, au, aI, List.drop_succ_cons, List.drop_zero]) ?_
  apply k0; clear k0; simp only [zP, V, List.append_assoc, aM, ← gK]
  (refine aj rfl fun _ k0 => ?_; simp only [zO, zT, acs, reduceCtorEq, aa, V, ad, ag, af, ae, ah, aN, bc, aq, aL, ar, aw, hgi, Int.toNat_one, au, aI, List.drop_succ_cons, List.drop_zero]; (repeat refine And.intro (by first | omega | assumption | exact rfl | exact ⟨n, 1, ⟨rfl, rfl, by decide⟩, by omega, by omega⟩) ?_); (try refine .inl ?_); apply k0; clear k0; simp only [zP, V, List.append_assoc, aM, ← gK])
  refine am ?_
  refine ⟨by kernel_rfl, ?_⟩
  apply k50; clear k50; refine kp [0, 2, 6, 7, 9, 10, 11, 12, 80, 81, 82, 83, 92] ?_
  refine bn hP hN Try.mixed rfl ?_
  iterate 21 (refine aj rfl fun _ k0 => ?_; simp only [zE, op1, ev, lkp, cY, bK, iB, bM, d7, Nat.mul_one, bS, cL, acs, Ty.dflt, zG, bZ, cA, Ty.size, ne_eq, not_false_eq_true, Int.natCast_one, Int.mul_one, iF, cb, ci, dt, dj, rep, br, cj, eW, dW, cE, cW, eh, Nat.div_one, cH, d5, dite_true, dY, reduceCtorEq, aa, V, ad, ag, af, ae, Try.el27, Try.el50, Try.fl58, Try.st52, Try.st58, Try.st62, Try.td1, Try.td2, Try.td27, Try.td3, Try.td50, Try.td52, Try.td58, Try.td60, Try.td62, ah, aN, bc, aq, aL, ar, yZ hxl, hfl]; (repeat refine And.intro (by first | omega | assumption | exact rfl | exact ⟨n, 1, ⟨rfl, rfl, by decide⟩, by omega, by omega⟩) ?_); (try refine .inl ?_); apply k0; clear k0; simp only [zP, V, yq hxl])
  refine am ?_
  refine ⟨by kernel_rfl, ?_⟩
  apply k44; clear k44; refine kp [0, 2, 6, 7, 9, 10, 11, 12, 80, 81, 82, 83, 92] ?_
  refine ak hP hN rfl ?_
  iterate 2 (refine aj rfl fun _ k0 => ?_; simp only [zO, zT, acs, reduceCtorEq, aa, V, ad, ag, af, ae, ah, aN, bc, aq, aL, ar]; (repeat refine And.intro (by first | omega | assumption | exact rfl | exact ⟨n, 1, ⟨rfl, rfl, by decide⟩, by omega, by omega⟩) ?_); (try refine .inl ?_); apply k0; clear k0; simp only [zP, V])
  refine am ?_
  refine ⟨_, _, ?_, ax [0, 2, 6, 7, 9, 80, 81, 82], i + 1, D ++ (cv m f (bV m ini cur a0 cur.length ((aC (ouL m cur a0)).getD i 0)) (bB m cur a0 cur.length ((aC (ouL m cur a0)).getD i 0)) w2 (n + 1 + D.length)), K ++ [(((aC (ouL m cur a0)).getD i 0), ((n + 1 + D.length : Nat) : Int), ())], by omega, hst9, by rw [aq]; omega, by rw [aq]; simp only [au, aG]; omega, rfl, ?_⟩
  · omega
  · simp only [aq, ← Nat.add_assoc]; rfl
 (try simp only [zB, reduceCtorEq] at hc43)
 have hie : i = (aC (ouL m cur a0)).length := by omega
 refine aV ?_
 apply k38; clear k38; refine kp [0, 2, 6, 7, 9, 80, 81, 82, 83] ?_
 refine ai fun _ k51 => ?_
 refine ak hP hN rfl ?_
 iterate 2 (refine aj rfl fun _ k0 => ?_; simp only [zO, zT, acs, reduceCtorEq, aa, V, ad, ag, af, ae, ah, aN, bc, aq, aL, ar]; (repeat refine And.intro (by first | omega | assumption | exact rfl | exact ⟨n, 1, ⟨rfl, rfl, by decide⟩, by omega, by omega⟩) ?_); (try refine .inl ?_); apply k0; clear k0; simp only [zP, V])
 refine am ?_
 apply k51; clear k51; refine kp [0, 2, 6, 7, 9, 80, 81, 82, 83] ?_
 refine d9 3 1 (t := kdT) rfl rfl ?_
 simp only [aH, bh, fr3, zS, aa, and_self, and_true, true_and, and_false, false_and, if_true, if_false, eq_self, reduceCtorEq, Nat.one_ne_zero, Nat.zero_ne_one]
 refine dh [6] ?_; simp only [cF, lkp, zE, reduceCtorEq, aa]
 refine cP (n := 3) (L1 := [_, _, _]) rfl rfl (by rw [hB]; simp) rfl (by simp [dO, bH, cz, dm]) ?_
 refine eg (L1 := [_, _]) rfl (by rw [hB]; exact Nat.le_refl _) rfl (by simp [dO, bH, cz, dm]) ?_
 refine aF ?_
 refine ⟨by first | exact .inl rfl | exact .inr rfl, _, rfl, ?_⟩; simp only [zP, aa, V, ah, aN, bc, aq, aL, ar]
 try refine ⟨?_, rfl⟩
 first
 | (rw [eP (by omega)]; all_goals rfl)
 | (rw [eH (by omega) (hW.symm.trans hWn)]; all_goals rfl)
 | (rw [cV (by omega) hW.symm, fE hD hbrk, au, show n + (D.length + 1) = n + 1 + D.length by omega]; all_goals rfl)
 | (rw [hie, aI] at hD
    rw [cV (by omega) hW.symm, hD, au, show n + (D.length + 1) = n + 1 + D.length by omega]; all_goals rfl)
theorem uR (m : Mly) (hm : MOK m) : ∀ (f : Nat) (ini cur w : List Int) (n : Nat) (fl : List Value), 4098 ≤ f + n → n ≤ 4096 → fl.length = n * 3 → cK m cur → ini.length = cur.length → 0 < cur.length → cur.length ≤ 1000 → dA m w → ep Try.prog [.vars 62 [.int .i64 m.inp, .int .i64 m.st, .list (.list (.int .i64)) m.nx, .list (.list (.int .i64)) m.ot, .rwc 1 n], .rowc 52 3 n (ef fl)] 33 [.one (.ptr 0 0 0 0), .agg [.list (.int .i64) ini, .list (.int .i64) cur], .one (.list (.int .i64) w)] { av := .one (.int .i64 (n : Int)), upd := [(0, .vars 62 [.int .i64 m.inp, .int .i64 m.st, .list (.list (.int .i64)) m.nx, .list (.list (.int .i64)) m.ot, .rwc 1 (n + (cv m f ini cur w n).length)]), (1, .rowc 52 3 (n + (cv m f ini cur w n).length) (ef fl ++ ndC (cv m f ini cur w n)))], fp := [0, 1] }
  | 0, ini, cur, w, n, fl, hf, hn, _, _, _, _, _, _ => by omega
  | f + 1, ini, cur, w, n, fl, hf, hn, hfl, hs, hil, h0, hl, hw => yK f m hm (uR m hm f) ini cur w n fl hf hn hfl hs hil h0 hl hw
theorem oH {C : Ctx} {L : List AO} {σ : Sig} {w : World} {k j sz : Nat} {e T : TypeId} {cs : List AC} (h : INV C L σ w) (ht : 0 < sz) (hk : L[k]? = some (.vars T cs)) (hj : cs[j]? = some .nils) :
    ∃ σ', INV C ((L ++ [AO.rowc e sz 0 []]).set k (AO.vars T (cs.set j (.rwc L.length 0)))) σ' w ∧ dv C L σ w ((L ++ [AO.rowc e sz 0 []]).set k (AO.vars T (cs.set j (.rwc L.length 0)))) σ' w := by
  have hlt : k < L.length := (List.getElem?_eq_some_iff.1 hk).1
  obtain ⟨σ1, d1, d2, d3⟩ := dF (C := C) (L := L) (σ := σ) (w := w) (w' := w) (v := .one (.rwc L.length 0)) (fp := []) (u := .slice none 0 0) (g := .slice none 0 0) (ob := .rowc e sz 0 []) h (Nat.le_refl _) rfl rfl rfl (fun _ _ => rfl) (fun b hb => by cases hb)
    (fun _ => ⟨[], 0, ⟨(Nat.zero_mul sz).symm, .inl ⟨by rw [aZ], rfl⟩⟩, ht, (Nat.zero_mul sz).symm, trivial⟩) ⟨rfl, .rowc e sz 0 [], by simp, Nat.le_refl _, fun _ _ => ⟨⟨_, _, _, rfl⟩, by rw [aZ]⟩⟩
  have e1 : app L { av := .one (.rwc L.length 0), new := [AO.rowc e sz 0 []], fp := [] } = L ++ [AO.rowc e sz 0 []] := rfl
  rw [e1] at d1 d2 d3
  have hk1 : (L ++ [AO.rowc e sz 0 []])[k]? = some (.vars T cs) := by rw [List.getElem?_append_left hlt]; exact hk
  obtain ⟨b, vs, q1, q2, q3⟩ := d1.ob k _ hk1
  have hlast : (L ++ [AO.rowc e sz 0 []])[L.length]? = some (.rowc e sz 0 []) := by simp
  have hnil : .slice none 0 0 = σ1 L.length := by
    obtain ⟨_, ob, p2, _, p4⟩ := d2
    rw [hlast] at p2; cases p2
    exact (p4 rfl rfl).2
  obtain ⟨b0, vs0, r1, r2, r3⟩ := h.ob k _ hk
  obtain ⟨u, hu0, hcu0⟩ := r3.at_ hj
  obtain ⟨u, hu, hcu⟩ : ∃ u, vs[j]? = some u ∧ RC C (L ++ [AO.rowc e sz 0 []]) σ1 w .nils u := q3.at_ hj
  have hvs : vs.set j u = vs := by
    apply List.ext_getElem?
    intro i
    rw [List.getElem?_set]
    split
    · rename_i e; subst e; split
      · exact hu.symm
      · rename_i hh; exact absurd (List.getElem?_eq_some_iff.1 hu).1 hh
    · rfl
  obtain ⟨j1, j2⟩ := j5 d1 hk1 q1 q2 (cs' := cs.set j (.rwc L.length 0)) (by
    rw [← hvs]
    exact q3.set j ⟨hcu.1, _, hlast, Nat.le_refl _, fun _ _ => ⟨⟨_, _, _, rfl⟩, hcu.2.trans hnil⟩⟩)
  exact ⟨σ1, j1, d3.trans j2⟩
theorem zq (m : Mly) (hm : MOK m) (all : List Int) (hs : cK m all) (h0 : 0 < all.length) (hl : all.length ≤ 1000) (L0 : List AO) (m0 : Nat) (hm0 : L0[m0]? = some (.vars 62 [.int .i64 m.inp, .int .i64 m.st, .list (.list (.int .i64)) m.nx, .list (.list (.int .i64)) m.ot, .nils])) :
    ep Try.prog L0 33 (List.map (mv1 m0) [.one (.ptr 0 0 0 0), .agg [.list (.int .i64) all, .list (.int .i64) all], .one .nils]) { av := .one (.int .i64 0), upd := [(m0, .vars 62 [.int .i64 m.inp, .int .i64 m.st, .list (.list (.int .i64)) m.nx, .list (.list (.int .i64)) m.ot, .list ndT (cv m 4098 all all [] 0)])], fp := [m0] } := by
  have hc := uR m hm 4098 all all [] 0 [] (by omega) (by omega) rfl hs rfl h0 hl (fun x hx => by cases hx)
  refine qk (cs := [.int .i64 m.inp, .int .i64 m.st, .list (.list (.int .i64)) m.nx, .list (.list (.int .i64)) m.ot, .nils]) (cs' := [.int .i64 m.inp, .int .i64 m.st, .list (.list (.int .i64)) m.nx, .list (.list (.int .i64)) m.ot, .list ndT (cv m 4098 all all [] 0)]) hc.1 rfl rfl (fun C σ w vs hP hI ha => ?_) L0 m0 hm0
  match vs, ha with
  | [v0, v1, v2], ⟨a0, a1, a2, _⟩ =>
  obtain ⟨σ1, d1, d3⟩ := oH (k := 0) (j := 4) (sz := 3) (e := 52) hI (by decide) rfl rfl
  refine (hc.2 C _ σ1 w [v0, v1, v2] hP d1 ⟨d3.rv a0, d3.rv a1, jS (bq rfl) _ _ _ _ _ (d3.rv a2), trivial⟩ (fun _ _ => rfl) rfl).mono fun e w' ⟨v, he, σ', g1, g2, g3⟩ => ?_
  have hlen : (ef [] ++ ndC (cv m 4098 all all [] 0)).length = (cv m 4098 all all [] 0).length * ndT.size := bc _
  obtain ⟨i1, i2⟩ := kF (k := 1) (t := ndT) (n := (cv m 4098 all all [] 0).length) (e := 52) (v := 0 + (cv m 4098 all all [] 0).length) (cs := ef [] ++ ndC (cv m 4098 all all [] 0)) g1 rfl (l9 ndT _) hlen
  obtain ⟨b, us, r1, r2, r3⟩ := g1.ob 0 _ rfl
  match us, r3 with
  | [u0, u1, u2, u3, u4], ⟨c0, c1, c2, c3, c4, _⟩ =>
  have hnew : RC C [.vars 62 [.int .i64 m.inp, .int .i64 m.st, .list (.list (.int .i64)) m.nx, .list (.list (.int .i64)) m.ot, .rwc 1 (0 + (cv m 4098 all all [] 0).length)], .row ndT 52 (0 + (cv m 4098 all all [] 0).length + 1) (cv m 4098 all all [] 0)] σ' w' (.row 1 (0 + (cv m 4098 all all [] 0).length + 1)) u4 := by
    obtain ⟨q1, ob, q2, q3, q4⟩ := c4
    cases q2
    exact ⟨q1, .row ndT 52 (0 + (cv m 4098 all all [] 0).length + 1) (cv m 4098 all all [] 0), rfl, Nat.le_refl _, fun _ _ => ⟨⟨_, _, _, rfl⟩, (q4 rfl rfl).2⟩⟩
  obtain ⟨j1, j2⟩ := j5 (k := 0) (T := 62) (cs' := [.int .i64 m.inp, .int .i64 m.st, .list (.list (.int .i64)) m.nx, .list (.list (.int .i64)) m.ot, .row 1 (0 + (cv m 4098 all all [] 0).length + 1)]) i1 rfl r1 r2 ⟨i2 _ _ c0, i2 _ _ c1, i2 _ _ c2, i2 _ _ c3, hnew, trivial⟩
  refine ⟨_, σ', .one (.int .i64 0), v, he, ⟨[.int .i64 m.inp, .int .i64 m.st, .list (.list (.int .i64)) m.nx, .list (.list (.int .i64)) m.ot, .row 1 (0 + (cv m 4098 all all [] 0).length + 1)], [.row ndT 52 (0 + (cv m 4098 all all [] 0).length + 1) (cv m 4098 all all [] 0)], rfl, ?_, rfl⟩, j1, j2.rv (i2.rv g2), ((d3.trans g3).trans i2).trans j2⟩
  show [_, _, _, _, if _ then _ else _] = _
  rw [if_pos rfl]; rfl
set_option maxHeartbeats 1000000 in
theorem rB (m : Mly) : bP Try.prog 11 [m.av] (.tup [.agg [.list ndT (iz m)], .one (.bool (l8 m)), .one (.int .i64 (dx m))]) := by
 have hbl := wR m
 refine aS Try.func11 rfl (by kernel_rfl) (Nat.le_of_ble_eq_true rfl) rfl fun C hP hN hB => ?_
 replace hN : C.N = 39 := hN
 simp only [bf, V]
 refine ai fun _ k1 => ?_
 refine ak hP hN rfl ?_
 iterate 4 (refine aj rfl fun _ k0 => ?_; simp only [zO, zT, acs, reduceCtorEq, aa, V, ad, ag, af, ae, Mly.av, aX, di]; (repeat refine an ?_); (try refine .inl ?_); apply k0; clear k0; simp only [zP, V])
 refine am ?_
 apply k1; clear k1; refine kp [0, 1, 2, 3, 4] ?_
 refine ai fun _ k2 => ?_
 refine ai fun _ k3 => ?_
 refine ak hP hN rfl ?_
 (refine aj rfl fun _ k0 => ?_; simp only [zO, zT, acs, reduceCtorEq, aa, V, ad, ag, af, ae, Mly.av, aX, di]; (repeat refine an ?_); (try refine .inl ?_); apply k0; clear k0; simp only [zP, V])
 refine aj rfl fun _ k0 => ?_
 refine aK (h := aE (qV m)) rfl rfl (by first | exact rfl | (simp only [ev, zP, aa, V]; exact rfl)) (by simp only [zV, acs, reduceCtorEq, aa, V, ad, ag, af, ae, Mly.av, aX, di]) ?_
 apply k0; clear k0; simp only [zP, V]
 (refine aj rfl fun _ k0 => ?_; simp only [zO, zT, acs, reduceCtorEq, aa, V, ad, ag, af, ae, Mly.av, aX, di]; (repeat refine an ?_); (try refine .inl ?_); apply k0; clear k0; simp only [zP, V])
 refine am ?_
 apply k3; clear k3; refine kp [0, 1, 2, 3, 4, 5] ?_
 refine ai fun _ k4 => ?_
 refine ak hP hN rfl ?_
 iterate 2 (refine aj rfl fun _ k0 => ?_; simp only [zO, zT, acs, reduceCtorEq, aa, V, ad, ag, af, ae, Mly.av, aX, di]; (repeat refine an ?_); (try refine .inl ?_); apply k0; clear k0; simp only [zP, V])
 refine am ?_
 apply k4; clear k4; refine kp [0, 1, 2, 3, 4, 5, 11] ?_
 refine cd (fun hc5 => ?_) (fun hc5 => ?_)
 ·(try simp only [zB, reduceCtorEq] at hc5)
  have hE : ¬ dR m = 0 := hc5
  refine ai fun _ k6 => ?_
  refine ak hP hN rfl ?_
  iterate 5 (refine aj rfl fun _ k0 => ?_; simp only [zO, zT, acs, reduceCtorEq, aa, V, ad, ag, af, ae, Mly.av, aX, di]; (repeat refine an ?_); (try refine .inl ?_); apply k0; clear k0; simp only [zP, V])
  refine am ?_
  apply k6; clear k6; refine kp [0, 1, 2, 3, 4, 5, 11] ?_
  refine aF ?_
  refine ⟨nr, _, rfl, ?_⟩; simp only [zF, zP, aa, V, Mly.av, aX, di]
  first
  | (have hZ : dx m = dR m := if_pos hE
     have hZ0 : ¬ dx m = 0 := by rw [hZ]; exact hE
     rw [(fC hZ0).1, (fC hZ0).2, hZ]; exact cg ⟨dq ⟨bq rfl, trivial⟩, aU (.refl _), aU (.refl _), trivial⟩)
  | (have hZ : dx m = 11 := (if_neg (fun h => h hE)).trans (if_pos hL)
     have hZ0 : ¬ dx m = 0 := by rw [hZ]; decide
     rw [(fC hZ0).1, (fC hZ0).2, hZ]; exact cg ⟨dq ⟨bq rfl, trivial⟩, aU (.refl _), aU (.refl _), trivial⟩)
  | (have hZ : dx m = 0 := (if_neg (fun h => h hE)).trans (if_neg hL)
     rw [(gE hZ).1, (gE hZ).2, hZ]; exact VLE.of_eq rfl)
 (try simp only [zB, reduceCtorEq] at hc5)
 have hE : dR m = 0 := by simpa using hc5
 have hm := eO (vD hE)
 have hn1 := hm.n1
 have hn2 := hm.n2
 refine ay ?_
 apply k2; clear k2; refine kp [0, 1, 2, 3, 4, 5, 11] ?_
 refine ai fun _ k7 => ?_
 refine ak hP hN rfl ?_
 iterate 4 (refine aj rfl fun _ k0 => ?_; simp only [zO, zT, acs, reduceCtorEq, aa, V, ad, ag, af, ae, Mly.av, aX, di]; (repeat refine an ?_); (try refine .inl ?_); apply k0; clear k0; simp only [zP, V])
 refine am ?_
 apply k7; clear k7; refine kp [0, 1, 2, 3, 4, 5, 6, 11] ?_
 refine ai fun _ k8 => ?_
 refine bn hP hN Try.mixed rfl ?_
 iterate 2 (refine aj rfl fun _ k0 => ?_; simp only [zO, zT, acs, reduceCtorEq, aa, V, ad, ag, af, ae, Mly.av, aX, di]; (repeat refine an ?_); (try refine .inl ?_); apply k0; clear k0; simp only [zP, V])
 refine aj rfl fun _ k0 => ?_
 refine aK (h := aE (ja m (by omega))) rfl rfl (by first | exact rfl | (simp only [ev, zP, aa, V]; exact rfl)) (by simp only [zV, acs, reduceCtorEq, aa, V, ad, ag, af, ae, Mly.av, aX, di]) ?_
 apply k0; clear k0; simp only [zP, V]
 (refine aj rfl fun _ k0 => ?_; simp only [zO, zT, acs, reduceCtorEq, aa, V, ad, ag, af, ae, Mly.av, aX, di]; (repeat refine an ?_); (try refine .inl ?_); apply k0; clear k0; simp only [zP, V])
 refine aj rfl fun _ k0 => ?_
 refine aK (h := aE (ja m (by omega))) rfl rfl (by first | exact rfl | (simp only [ev, zP, aa, V]; exact rfl)) (by simp only [zV, acs, reduceCtorEq, aa, V, ad, ag, af, ae, Mly.av, aX, di]) ?_
 apply k0; clear k0; simp only [zP, V]
 (refine aj rfl fun _ k0 => ?_; simp only [zO, zT, acs, reduceCtorEq, aa, V, ad, ag, af, ae, Mly.av, aX, di]; (repeat refine an ?_); (try refine .inl ?_); apply k0; clear k0; simp only [zP, V])
 refine aj rfl fun _ k0 => ?_
 refine aK (h := zq m hm (rgI m.nx.length) (lA m) (by rw [dc]; omega) (by rw [dc]; omega) _ 2 rfl) rfl rfl (by first | exact rfl | (simp only [ev, zP, aa, V]; exact rfl)) (by simp only [zV, acs, reduceCtorEq, aa, V, ad, ag, af, ae, Mly.av, aX, di]) ?_
 apply k0; clear k0; simp only [zP, V]
 refine am ?_
 refine ⟨by kernel_rfl, ?_⟩
 apply k8; clear k8; refine kp [0, 1, 2, 3, 4, 5, 6, 11] ?_
 refine ai fun _ k9 => ?_
 refine ai fun _ k10 => ?_
 refine ak hP hN rfl ?_
 iterate 6 (refine aj rfl fun _ k0 => ?_; simp only [zO, zT, acs, reduceCtorEq, aa, V, ad, ag, af, ae, Mly.av, aX, di]; (repeat refine an ?_); (try refine .inl ?_); apply k0; clear k0; simp only [zP, V])
 refine am ?_
 apply k10; clear k10; refine kp [0, 1, 2, 3, 4, 5, 6, 11, 29] ?_
 refine cd (fun hc11 => ?_) (fun hc11 => ?_)
 ·(try simp only [zB, reduceCtorEq] at hc11)
  have hL : 4096 < (ff m).length := by have h9 : (4096 : Int) < ((ff m).length : Int) := hc11; omega
  refine ai fun _ k12 => ?_
  refine ak hP hN rfl ?_
  iterate 4 (refine aj rfl fun _ k0 => ?_; simp only [zO, zT, acs, reduceCtorEq, aa, V, ad, ag, af, ae, Mly.av, aX, di]; (repeat refine an ?_); (try refine .inl ?_); apply k0; clear k0; simp only [zP, V])
  refine am ?_
  apply k12; clear k12; refine kp [0, 1, 2, 3, 4, 5, 6, 11, 29] ?_
  refine aF ?_
  refine ⟨nr, _, rfl, ?_⟩; simp only [zF, zP, aa, V, Mly.av, aX, di]
  first
  | (have hZ : dx m = dR m := if_pos hE
     have hZ0 : ¬ dx m = 0 := by rw [hZ]; exact hE
     rw [(fC hZ0).1, (fC hZ0).2, hZ]; exact cg ⟨dq ⟨bq rfl, trivial⟩, aU (.refl _), aU (.refl _), trivial⟩)
  | (have hZ : dx m = 11 := (if_neg (fun h => h hE)).trans (if_pos hL)
     have hZ0 : ¬ dx m = 0 := by rw [hZ]; decide
     rw [(fC hZ0).1, (fC hZ0).2, hZ]; exact cg ⟨dq ⟨bq rfl, trivial⟩, aU (.refl _), aU (.refl _), trivial⟩)
  | (have hZ : dx m = 0 := (if_neg (fun h => h hE)).trans (if_neg hL)
     rw [(gE hZ).1, (gE hZ).2, hZ]; exact VLE.of_eq rfl)
 (try simp only [zB, reduceCtorEq] at hc11)
 have hL : ¬ 4096 < (ff m).length := by have h9 : ((ff m).length : Int) ≤ 4096 := hc11; omega
 refine ay ?_
 apply k9; clear k9; refine kp [0, 1, 2, 3, 4, 5, 6, 11, 29] ?_
 refine ai fun _ k13 => ?_
 refine ak hP hN rfl ?_
 iterate 7 (refine aj rfl fun _ k0 => ?_; simp only [zO, zT, acs, reduceCtorEq, aa, V, ad, ag, af, ae, Mly.av, aX, di]; (repeat refine an ?_); (try refine .inl ?_); apply k0; clear k0; simp only [zP, V])
 refine am ?_
 apply k13; clear k13; refine kp [0, 1, 2, 3, 4, 5, 6, 7, 11, 29] ?_
 refine ai fun _ k14 => ?_
 refine bn hP hN Try.mixed rfl ?_
 iterate 2 (refine aj rfl fun _ k0 => ?_; simp only [zO, zT, acs, reduceCtorEq, aa, V, ad, ag, af, ae, Mly.av, aX, di]; (repeat refine an ?_); (try refine .inl ?_); apply k0; clear k0; simp only [zP, V])
 refine aj rfl fun _ k0 => ?_
 refine aK (h := aE (w7 (ff m) (by omega))) rfl rfl (by first | exact rfl | (simp only [ev, zP, aa, V]; exact rfl)) (by simp only [zV, acs, reduceCtorEq, aa, V, ad, ag, af, ae, Mly.av, aX, di]) ?_
 apply k0; clear k0; simp only [zP, V]
 iterate 3 (refine aj rfl fun _ k0 => ?_; simp only [zO, zT, acs, reduceCtorEq, aa, V, ad, ag, af, ae, Mly.av, aX, di]; (repeat refine an ?_); (try refine .inl ?_); apply k0; clear k0; simp only [zP, V])
 refine am ?_
 refine ⟨by kernel_rfl, ?_⟩
 apply k14; clear k14; refine kp [0, 1, 2, 3, 4, 5, 6, 7, 11, 29] ?_
 refine aF ?_
 refine ⟨nr, _, rfl, ?_⟩; simp only [zF, zP, aa, V, Mly.av, aX, di]
 first
 | (have hZ : dx m = dR m := if_pos hE
    have hZ0 : ¬ dx m = 0 := by rw [hZ]; exact hE
    rw [(fC hZ0).1, (fC hZ0).2, hZ]; exact cg ⟨dq ⟨bq rfl, trivial⟩, aU (.refl _), aU (.refl _), trivial⟩)
 | (have hZ : dx m = 11 := (if_neg (fun h => h hE)).trans (if_pos hL)
    have hZ0 : ¬ dx m = 0 := by rw [hZ]; decide
    rw [(fC hZ0).1, (fC hZ0).2, hZ]; exact cg ⟨dq ⟨bq rfl, trivial⟩, aU (.refl _), aU (.refl _), trivial⟩)
 | (have hZ : dx m = 0 := (if_neg (fun h => h hE)).trans (if_neg hL)
    rw [(gE hZ).1, (gE hZ).2, hZ]; exact VLE.of_eq rfl)
theorem vE : bP Try.prog 11 [.agg [.int .i64 0, .int .i64 0, .nils, .nils]] (.tup [.agg [.list ndT (iz z12)], .one (.bool (l8 z12)), .one (.int .i64 (dx z12))]) :=
  lY (rB z12) ⟨uP ⟨.refl _, .refl _, bq rfl, bq rfl, trivial⟩, trivial⟩
theorem ym : bP Try.prog 16 [dQ.av, .agg [.nils]] (.one (.int .i64 (eK dQ []))) :=
  lY (uy dQ []) ⟨VLE.of_eq rfl, uP ⟨bq rfl, trivial⟩, trivial⟩
end Go.Proofs.Ytoahhklogohehaa
