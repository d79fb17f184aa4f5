/- Contracts of functions of this seat, each out of a walk through its code, and plain facts on what they compute. Conditions: those that each theorem names. -/
import Derived.Test.YtgmgnkmgofkfpaaDoorW04
set_option linter.unusedSimpArgs false
set_option linter.unusedVariables false
namespace Go.AV
open Nat renaming reduceEqDiff → E, reduceAdd → D, reduceLeDiff → J, reduceLT → Y, reduceMul → U, reduceSub → V
open List renaming set_cons_zero → aq, set_cons_succ → ao
/-plain-/
/-! On drmTh: the reference's Min is the program's. -/
/-! Two minimal automata. -/
end Go.AV
namespace Go.AV
open Nat renaming reduceEqDiff → E, reduceAdd → D, reduceLeDiff → J, reduceLT → Y, reduceMul → U, reduceSub → V
open List renaming set_cons_zero → aq, set_cons_succ → ao
/-plain-/
/-! On dmeqTh, dfmTh. -/
end Go.AV
namespace Go.AV
open Nat renaming reduceEqDiff → E, reduceAdd → D, reduceLeDiff → J, reduceLT → Y, reduceMul → U, reduceSub → V
open List renaming set_cons_zero → aq, set_cons_succ → ao
/-plain-/
/-! On dmeqTh, dfmTh, dselfTh. -/
theorem jX {n : Int} {w : List Int} (hn : 1 ≤ n ∧ n ≤ 1024) (hw : eu n w) (hl : w.length ≤ 1024) : bY w n = 0 := eC hn.1 hn.2 ⟨hl, pN hw⟩
/-! Combinations. -/
/-! Differences. -/
/-! Counting. -/
def cV (d : Dfa) (k : Nat) : Int := (mY d k).getD d.st.toNat 0
structure CNT (d : Dfa) (k : Nat) : Prop where
  e1 : cuE d k = 0
  e2 : cuE (coD d) k = 0
  v1 : cuV d k = cV d k
  x0 : 0 ≤ cuV d k
  y0 : 0 ≤ cuV (coD d) k
  sm : cuV d k + cuV (coD d) k = d.inp ^ k
  pb : d.inp ^ k ≤ 205891132094649
  pp : 1 ≤ d.inp ^ k
def oV (d : Dfa) (k : Nat) : Int := match (List.range k).find? (fun j => decide (0 < cV d j)) with | some j => (j : Int) | none => -1
/-- The shortest accepted word. -/
structure SHO (d : Dfa) (k : Nat) : Prop where
  yes : 0 ≤ oV d k → pQ d = true ∧ ((nq d).length : Int) = oV d k
  no : pQ d = false → oV d k < 0 ∧ nq d = []
  ac : pQ d = true → acV d (nq d) = true ∧ acE d (nq d) = 0
/-! There and back. -/
structure TOM (d : Dfa) (M : Mly) : Prop where
  e : toE d = 0
  eq : M = ⟨d.inp, d.st, d.nx, d.om⟩
  ok : MOK M
structure TRP (d : Dfa) (acc : Bool) : Prop where
  fe : fmE (toM d) acc = 0
  tw : r7 (fmD (toM d) acc) d = 0
  nd : rH (fmD (toM d) acc) d = false
end Go.AV
namespace Go.AV
open Nat renaming reduceEqDiff → E, reduceAdd → D, reduceLeDiff → J, reduceLT → Y, reduceMul → U, reduceSub → V
open List renaming set_cons_zero → aq, set_cons_succ → ao
/-plain-/
/-! The laws of mappers. On pmdTh, pcoTh, dlawTh. -/
/-! Models. -/
theorem jS {m : Mly} {p : Mpr} : ∀ (f i : Nat), RIM m p i → (∃ j, RIM m p j ∧ goM m p f i = iD p (c9 m p j) ∧ (f + i = j ∨ ¬ j < (c9 m p j).S.length)) ∨ ∃ j a r, RIM m p j ∧ j < (c9 m p j).S.length ∧ a < p.ab.toNat ∧ (∀ b, b < a → ct m p j (bG m p j b) b = none) ∧ ct m p j (bG m p j a) a = some r ∧ goM m p f i = r
  | 0, i, h => .inl ⟨i, h, rfl, .inl (by omega)⟩
  | f + 1, i, h => by
    by_cases h1 : i < (c9 m p i).S.length
    · cases h2 : (List.range p.ab.toNat).findSome? (fun a => ct m p i (bG m p i a) a) with
      | none =>
        have h3 : ∀ b, b < p.ab.toNat → ct m p i (bG m p i b) b = none := fun b hb => (List.findSome?_eq_none_iff.1 h2) b (List.mem_range.2 hb)
        have e : goM m p (f + 1) i = goM m p f (i + 1) := by
          show (if _ then _ else _) = _
          rw [if_pos h1, h2]
        rw [e]
        rcases jS f (i + 1) (ib h h1 h3) with ⟨j, g1, g2, g3⟩ | g
        · exact .inl ⟨j, g1, g2, g3.imp (fun q => by omega) id⟩
        · exact .inr g
      | some r =>
        have e : goM m p (f + 1) i = r := by
          show (if _ then _ else _) = _
          rw [if_pos h1, h2]
        refine .inr ?_
        -- the first column that fails
        have hx : ∃ a, a < p.ab.toNat ∧ (∀ b, b < a → ct m p i (bG m p i b) b = none) ∧ ct m p i (bG m p i a) a = some r := by
          clear e
          generalize p.ab.toNat = n at h2
          induction n with
          | zero => simp at h2
          | succ n ih =>
            rw [List.range_succ, List.findSome?_append] at h2
            cases h4 : (List.range n).findSome? (fun a => ct m p i (bG m p i a) a) with
            | some r2 =>
              rw [h4] at h2
              have h5 : some r2 = some r := h2
              obtain ⟨a, q1, q2, q3⟩ := ih (by rw [h4, h5])
              exact ⟨a, by omega, q2, q3⟩
            | none =>
              rw [h4] at h2
              refine ⟨n, by omega, fun b hb => (List.findSome?_eq_none_iff.1 h4) b (List.mem_range.2 hb), ?_⟩
              simpa using h2
        obtain ⟨a, q1, q2, q3⟩ := hx
        exact ⟨i, a, r, h, h1, q1, q2, q3, e⟩
    · exact .inl ⟨i, h, by show (if _ then _ else _) = _; rw [if_neg h1], .inr h1⟩
theorem oE {m : Mly} {p : Mpr} (h : dT m p = 0) : MOK m ∧ POK p ∧ m.inp = p.inp := by
  unfold dT at h
  split at h
  · omega
  · split at h
    · omega
    · split at h
      · omega
      · exact ⟨mW (by omega), iU (by omega), by omega⟩
/-- A model, a clash or an error. -/
theorem jv (m : Mly) (p : Mpr) : (∃ e, ¬ e = 0 ∧ mdl m p = fm e) ∨ (MOK m ∧ POK p ∧ m.inp = p.inp ∧ ((∃ i, RIM m p i ∧ (c9 m p i).S.length = i ∧ 0 < i ∧ mdl m p = iD p (c9 m p i)) ∨
    ∃ i a, RIM m p i ∧ i < (c9 m p i).S.length ∧ a < p.ab.toNat ∧ 1 < (aO m p (cxM (bG m p i a) i) a).length ∧ mdl m p = ⟨ij, cwM (bG m p i a) i a, (aO m p (cxM (bG m p i a) i) a).getD 0 0, (aO m p (cxM (bG m p i a) i) a).getD 1 0, false, 0⟩)) := by
  by_cases h : dT m p = 0
  · obtain ⟨hm, hp, hi⟩ := oE h
    have e : mdl m p = goM m p 129 0 := if_pos h
    rcases jS (m := m) (p := p) 129 0 (fun j hj => by omega) with ⟨j, g1, g2, g3⟩ | ⟨j, a, r, g1, g2, g3, g4, g5, g6⟩
    · refine .inr ⟨hm, hp, hi, .inl ⟨j, g1, ?_, ?_, by rw [e, g2]⟩⟩
      · have h1 := eQ hm hp hi g1
        have h2 : ¬ j < (c9 m p j).S.length := by
          rcases g3 with g3 | g3
          · omega
          · exact g3
        match j, g1, h2 with
        | 0, _, h2 => exact absurd (show 0 < 1 by omega) h2
        | j + 1, g1, h2 =>
          have h3 := (g1 j (by omega)).1
          have h4 := fo (m := m) (p := p) (i := j) p.ab.toNat
          have h5 : (c9 m p (j + 1)).S = (bG m p j p.ab.toNat).S := rfl
          rw [h5] at h2 ⊢
          omega
      · match j, g3 with
        | 0, g3 => rcases g3 with g3 | g3
                   · omega
                   · exact absurd (show 0 < 1 by omega) g3
        | j + 1, _ => omega
    · unfold ct at g5
      split at g5
      · rename_i h1
        exact .inr ⟨hm, hp, hi, .inr ⟨j, a, g1, g2, g3, h1, by rw [e, g6]; exact (Option.some.inj g5).symm⟩⟩
      · split at g5
        · exact .inl ⟨2, by omega, by rw [e, g6]; exact (Option.some.inj g5).symm⟩
        · split at g5
          · exact .inl ⟨11, by omega, by rw [e, g6]; exact (Option.some.inj g5).symm⟩
          · cases g5
  · exact .inl ⟨dT m p, h, if_neg h⟩
/-! The words. -/
theorem rp {n : Int} {S : List SS} {x w : List Int} (h : ∀ s ∈ S, eu n s.2) (hw : eu n w) : ∀ s ∈ sgS S x w, eu n s.2 := fun s hs => by
  rcases jo hs with q | q
  · exact h s q
  · rw [q]; exact hw
theorem ru {n : Int} {S : List SS} (h : ∀ s ∈ S, eu n s.2) (i : Nat) : eu n (S.getD i ss0).2 := by
  by_cases e : i < S.length
  · exact h _ (by simp [List.getD, e])
  · rw [show S.getD i ss0 = ss0 by simp [List.getD, Nat.not_lt.1 e]]
    exact fun x hx => by cases hx
theorem oF {p : Mpr} {t : MS} {i a : Nat} (h : ∀ s ∈ t.S, eu p.ab s.2) (ha : (a : Int) < p.ab) : eu p.ab (cwM t i a) := by
  intro x hx
  unfold cwM at hx
  rcases List.mem_append.1 hx with q | q
  · exact ru h i x q
  · rw [List.mem_singleton] at q; omega
theorem ll {m : Mly} {p : Mpr} {i : Nat} (h : ∀ s ∈ (c9 m p i).S, eu p.ab s.2) : ∀ a, a ≤ p.ab.toNat → ∀ s ∈ (bG m p i a).S, eu p.ab s.2
  | 0, _ => h
  | a + 1, ha => by
    rw [dY]
    have := ll h a (by omega)
    exact rp this (oF this (by omega))
theorem mZ (m : Mly) (p : Mpr) : ∀ i, ∀ s ∈ (c9 m p i).S, eu p.ab s.2
  | 0 => fun s hs => by
    have : s = ([p.st * (m.nx.length : Int) + m.st], []) := List.mem_singleton.1 hs
    rw [this]; exact fun x hx => by cases hx
  | i + 1 => by
    rw [eM]
    exact ll (mZ m p i) _ (Nat.le_refl _)
theorem rj {m : Mly} {p : Mpr} (hm : MOK m) (hp : POK p) (hi : m.inp = p.inp) {xs : List Int} (h : SB m p xs) (a : Int) : ∀ y ∈ oA m p xs a, 0 ≤ y := fun y hy => by
  unfold oA at hy
  obtain ⟨x, hx, hy⟩ := List.mem_flatMap.1 hy
  unfold oK1 at hy
  split at hy
  · rw [List.mem_singleton] at hy; omega
  · unfold oK at hy
    obtain ⟨c, hc, rfl⟩ := List.mem_map.1 hy
    unfold cK at hc
    have hc2 := List.mem_range.1 (List.mem_filter.1 hc).1
    have := (iX hm hp hi (h.rng x hx) (c := c) (by omega)).1.2
    have := (hm.or _ c this (by omega)).1
    unfold oC; omega
theorem o5 {m : Mly} {p : Mpr} (h : (mdl m p).e = 0 ∧ (mdl m p).f = false) : 0 < (mdl m p).w.length ∧ (mdl m p).a < (mdl m p).b ∧ 0 ≤ (mdl m p).a ∧ bY (mdl m p).w p.ab = 0 := by
  rcases jv m p with ⟨e, h1, h2⟩ | ⟨hm, hp, hi, ⟨i, _, _, _, h2⟩ | ⟨i, a, g1, g2, g3, g4, h2⟩⟩
  · rw [h2] at h; exact absurd h.1 h1
  · rw [h2] at h; exact absurd h.2 (by simp [iD])
  · rw [h2]
    have hSR := fz hm hp hi g1
    obtain ⟨hSI, hgg⟩ := gW hm hp hi hSR g2 a
    have hge := fo (m := m) (p := p) (i := i) a
    have hle := eQ hm hp hi g1
    have b1 := hp.b1; have b2 := hp.b2
    have hwl := (hSI.at_ (i := i) (by omega)).2
    have hsb := (hSI.at_ (i := i) (by omega)).1
    have hor := (cX (oA m p (cxM (bG m p i a) i) a)).1
    refine ⟨?_, ?_, ?_, ?_⟩
    · show 0 < (_ ++ [_]).length
      rw [List.length_append]; simp
    · show (eB (oA m p (cxM (bG m p i a) i) a)).getD 0 0 < (eB (oA m p (cxM (bG m p i a) i) a)).getD 1 0
      have h4 : 1 < (eB (oA m p (cxM (bG m p i a) i) a)).length := g4
      have := List.pairwise_iff_getElem.1 hor 0 1 (by omega) h4 (by omega)
      simp [List.getD, h4, show 0 < (eB (oA m p (cxM (bG m p i a) i) a)).length by omega]
      exact this
    · refine pC (rj hm hp hi hsb a) _ (dc (by show 0 < (aO m p (cxM (bG m p i a) i) a).length; omega))
    · refine jX ⟨b1, by omega⟩ (oF (ll (mZ m p i) a (by omega)) (by omega)) ?_
      show (_ ++ [_]).length ≤ _
      rw [List.length_append]; simp only [List.length_cons, List.length_nil]; omega
theorem nZ {m : Mly} {p : Mpr} (h : ¬ (mdl m p).e = 0 ∨ (mdl m p).f = true) : (mdl m p).w = [] := by
  rcases jv m p with ⟨e, h1, h2⟩ | ⟨hm, hp, hi, ⟨i, _, _, _, h2⟩ | ⟨i, a, g1, g2, g3, g4, h2⟩⟩
  · rw [h2]; rfl
  · rw [h2]; rfl
  · rw [h2] at h; simp at h
end Go.AV
namespace Go.Proofs.YtgmgnkmgofkfpaaDoor
open Go Go.AV
open Nat renaming reduceEqDiff → E, reduceAdd → D, reduceLeDiff → J, reduceLT → Y, reduceMul → U, reduceSub → V
open List renaming set_cons_zero → aq, set_cons_succ → ao
set_option maxRecDepth 100000 in
theorem qC (n : Int) : cj Tryd.prog 50 [.one (.int .i64 n)] (.one (.bool (decide (1 ≤ n) && decide (n ≤ 1024)))) := by
 refine bu Tryd.func50 rfl (by kernel_rfl) (Nat.le_of_ble_eq_true rfl) rfl fun C hP hN hB => ?_
 replace hN : C.N = 9 := hN
 simp only [a9, D]
 refine ae fun K1 hK1 => ?_
 refine ak hP hN rfl ?_
 (refine ad rfl fun K0 Z => ?_; simp only [zE, op1, ev, lkp, ai, ah, ev, reduceCtorEq, E, D, J, Y, U, V, Tryd.td4]; refine Z _ ?_; clear Z K0; simp only [put, app, aa, ag, zE, zS, D])
 refine aj ?_
 refine hK1 _ ?_; clear hK1; refine af [0, 2] ?_; simp only [a8, lkp, zE, reduceCtorEq, E, a9, D]
 refine ae fun K2 hK2 => ?_
 refine ak hP hN rfl ?_
 iterate 2 (refine ad rfl fun K0 Z => ?_; simp only [zE, op1, ev, lkp, ai, ah, aD, aE, aF, ar, aB, aS, reduceCtorEq, E, D, J, Y, U, V, Tryd.td3, Tryd.td4]; (repeat refine And.intro (by first | omega | assumption | exact rfl) ?_); refine Z _ ?_; clear Z K0; simp only [put, app, aa, ag, zE, zS, D])
 (refine ad rfl fun K0 Z => ?_; simp only [zE, op1, ev, lkp, ai, ah, ev, reduceCtorEq, E, D, J, Y, U, V, Tryd.td4]; refine Z _ ?_; clear Z K0; simp only [put, app, aa, ag, zE, zS, D])
 refine' aW (want := true) 2 rfl (m := 5) (by simp only [a8, lkp, zE, reduceCtorEq, E, a9, D]; exact rfl) (by kernel_rfl) rfl rfl rfl rfl rfl (fun hg3 => ?a3) ?b3 ?c3
 case a3 =>
  have hq3 := hg3; (try simp only [zB, reduceCtorEq] at hg3); simp only [List.take_succ_cons, List.take_zero, List.cons_append, List.nil_append]
  (refine ay rfl fun K0 Z => ?_; simp only [zE, op1, ev, lkp, ai, ah, ev, reduceCtorEq, E, D, J, Y, U, V, Tryd.td3]; refine Z _ ?_; clear Z K0; simp only [put, app, aa, ag, zE, zS, D])
  (refine ay rfl fun K0 Z => ?_; simp only [zE, op1, ev, lkp, ai, ah, aD, aE, aF, ar, aB, aS, reduceCtorEq, E, D, J, Y, U, V, Tryd.td3, Tryd.td4]; (repeat refine And.intro (by first | omega | assumption | exact rfl) ?_); refine Z _ ?_; clear Z K0; simp only [put, app, aa, ag, zE, zS, D])
  (refine ad rfl fun K0 Z => ?_; simp only [zE, op1, ev, lkp, ai, ah, bt, reduceCtorEq, E, D, J, Y, U, V, Tryd.td4]; refine Z _ ?_; clear Z K0; simp only [put, app, aa, ag, zE, zS, D])
  refine aj ?_
  refine ⟨by simp only [a8, lkp, zE, reduceCtorEq, E, a9, D]; exact rfl, rfl, ?_, rfl⟩; (repeat refine aV rfl ?_); exact bB (by exact rfl) hq3
 case b3 => exact bz (by first | rfl | (simp [bW]; done) | decide)
 simp only [bj, ba]
 (refine ad rfl fun K0 Z => ?_; simp only [zE, op1, ev, lkp, ai, ah, ev, reduceCtorEq, E, D, J, Y, U, V, Tryd.td4]; refine Z _ ?_; clear Z K0; simp only [put, app, aa, ag, zE, zS, D])
 refine aj ?_
 refine hK2 _ ?_; clear hK2; refine af [0, 2] ?_; simp only [a8, lkp, zE, reduceCtorEq, E, a9, D]
 refine aJ ?_
 refine ⟨by first | exact .inl rfl | exact .inr rfl, _, rfl, ?_⟩; simp only [fzV, fz1, fzC, List.map_cons, List.map_nil, a8, lkp, zE, reduceCtorEq, E, a9, D]
 refine VLE.of_eq ?_
 rfl
end Go.Proofs.YtgmgnkmgofkfpaaDoor
namespace Go.Proofs.YtgmgnkmgofkfpaaDoor
open Go Go.AV
open Nat renaming reduceEqDiff → E, reduceAdd → D, reduceLeDiff → J, reduceLT → Y, reduceMul → U, reduceSub → V
open List renaming set_cons_zero → aq, set_cons_succ → ao
set_option maxRecDepth 100000 in
theorem nS (w : List Int) (n : Int) : cj Tryd.prog 29 [.one (.list (.int .i64) w), .one (.int .i64 n)] (.one (.int .i64 (bY w n))) := by
 refine bu Tryd.func29 rfl (by kernel_rfl) (Nat.le_of_ble_eq_true rfl) rfl fun C hP hN hB => ?_
 replace hN : C.N = 31 := hN
 simp only [a9, D]
 refine ae fun K1 hK1 => ?_
 refine ak hP hN rfl ?_
 (refine ad rfl fun K0 Z => ?_; simp only [zE, op1, ev, lkp, ai, ah, ev, reduceCtorEq, E, D, J, Y, U, V, Tryd.td3]; refine Z _ ?_; clear Z K0; simp only [put, app, aa, ag, zE, zS, D])
 refine aj ?_
 refine hK1 _ ?_; clear hK1; refine af [0, 1, 4] ?_; simp only [a8, lkp, zE, reduceCtorEq, E, a9, D]
 refine ae fun K2 hK2 => ?_
 refine ae fun K3 hK3 => ?_
 refine ak hP hN rfl ?_
 (refine ad rfl fun K0 Z => ?_; simp only [zE, op1, ev, lkp, ai, ah, ev, reduceCtorEq, E, D, J, Y, U, V, Tryd.td3]; refine Z _ ?_; clear Z K0; simp only [put, app, aa, ag, zE, zS, D])
 refine ad rfl fun K0 Z => ?_
 refine aY (h := aL (qC n)) rfl rfl (by first | exact rfl | (simp only [ev, a8, lkp, zE, reduceCtorEq, E, a9, D]; exact rfl)) (by simp only [zE, zG, op1, ev, lkp, ai, ah, au, acs, bm, mv1, mvC, Ty.dflt, reduceCtorEq, E, D, J, Y, U, V]) ?_
 refine Z _ ?_; clear Z K0; simp only [put, app, aa, ag, zE, zS, D]
 (refine ad rfl fun K0 Z => ?_; simp only [zE, op1, ev, lkp, ai, ah, ez, reduceCtorEq, E, D, J, Y, U, V, Tryd.td4]; (repeat refine And.intro (by first | omega | assumption | exact rfl) ?_); refine Z _ ?_; clear Z K0; simp only [put, app, aa, ag, zE, zS, D])
 refine aj ?_
 refine hK3 _ ?_; clear hK3; refine af [0, 1, 4, 8] ?_; simp only [a8, lkp, zE, reduceCtorEq, E, a9, D]
 refine aG (by simp only [ev, a8, lkp, zE, reduceCtorEq, E, a9, D]; exact rfl) (fun hc4 => ?_) (fun hc4 => ?_)
 ·(try simp only [zB, reduceCtorEq] at hc4)
  refine ae fun K5 hK5 => ?_
  refine ak hP hN rfl ?_
  (refine ad rfl fun K0 Z => ?_; simp only [zE, op1, ev, lkp, ai, ah, ev, reduceCtorEq, E, D, J, Y, U, V, Tryd.td3]; refine Z _ ?_; clear Z K0; simp only [put, app, aa, ag, zE, zS, D])
  refine aj ?_
  refine hK5 _ ?_; clear hK5; refine af [0, 1, 4, 8] ?_; simp only [a8, lkp, zE, reduceCtorEq, E, a9, D]
  refine aJ ?_
  refine ⟨by first | exact .inl rfl | exact .inr rfl, _, rfl, ?_⟩; simp only [fzV, fz1, fzC, List.map_cons, List.map_nil, a8, lkp, zE, reduceCtorEq, E, a9, D]
  refine VLE.of_eq ?_
  refine congrArg (fun n => AV.one (AC.int IntKind.i64 n)) ?_
  symm
  first
  | (unfold bY; rw [if_pos (by omega)]; done)
  | (unfold bY; rw [if_neg (by omega), if_pos (by omega)]; done)
  | exact eV (by omega) (by omega) (by omega) (i := k) (by omega) (by omega)
  | exact eC (by omega) (by omega) ⟨by omega, fun i hi => hI i (by omega)⟩
 ·(try simp only [zB, reduceCtorEq] at hc4)
  refine aM ?_
  refine hK2 _ ?_; clear hK2; refine af [0, 1, 4, 8] ?_; simp only [a8, lkp, zE, reduceCtorEq, E, a9, D]
  refine ae fun K6 hK6 => ?_
  refine ae fun K7 hK7 => ?_
  refine ak hP hN rfl ?_
  iterate 3 (refine ad rfl fun K0 Z => ?_; simp only [zE, op1, ev, lkp, ai, ah, aH, bE, br, bl, bn, bI, Nat.div_one, aP, bp, Ty.size, aI, dite_true, aD, aE, aF, ar, aB, aS, reduceCtorEq, E, D, J, Y, U, V, Tryd.el25, Tryd.td25, Tryd.td3, Tryd.td4]; (repeat refine And.intro (by first | omega | assumption | exact rfl) ?_); (first | refine Z _ ?_ | refine Or.inl (Z _ ?_)); clear Z K0; simp only [put, app, aa, ag, zE, zS, D])
  refine aj ?_
  refine hK7 _ ?_; clear hK7; refine af [0, 1, 4, 8, 11] ?_; simp only [a8, lkp, zE, reduceCtorEq, E, a9, D]
  refine aG (by simp only [ev, a8, lkp, zE, reduceCtorEq, E, a9, D]; exact rfl) (fun hc8 => ?_) (fun hc8 => ?_)
  ·(try simp only [zB, reduceCtorEq] at hc8)
   refine ae fun K9 hK9 => ?_
   refine ak hP hN rfl ?_
   (refine ad rfl fun K0 Z => ?_; simp only [zE, op1, ev, lkp, ai, ah, ev, reduceCtorEq, E, D, J, Y, U, V, Tryd.td3]; refine Z _ ?_; clear Z K0; simp only [put, app, aa, ag, zE, zS, D])
   refine aj ?_
   refine hK9 _ ?_; clear hK9; refine af [0, 1, 4, 8, 11] ?_; simp only [a8, lkp, zE, reduceCtorEq, E, a9, D]
   refine aJ ?_
   refine ⟨by first | exact .inl rfl | exact .inr rfl, _, rfl, ?_⟩; simp only [fzV, fz1, fzC, List.map_cons, List.map_nil, a8, lkp, zE, reduceCtorEq, E, a9, D]
   refine VLE.of_eq ?_
   refine congrArg (fun n => AV.one (AC.int IntKind.i64 n)) ?_
   symm
   first
   | (unfold bY; rw [if_pos (by omega)]; done)
   | (unfold bY; rw [if_neg (by omega), if_pos (by omega)]; done)
   | exact eV (by omega) (by omega) (by omega) (i := k) (by omega) (by omega)
   | exact eC (by omega) (by omega) ⟨by omega, fun i hi => hI i (by omega)⟩
  ·(try simp only [zB, reduceCtorEq] at hc8)
   refine aM ?_
   refine hK6 _ ?_; clear hK6; refine af [0, 1, 4, 8, 11] ?_; simp only [a8, lkp, zE, reduceCtorEq, E, a9, D]
   refine ae fun K10 hK10 => ?_
   refine ae fun K11 hK11 => ?_
   refine ak hP hN rfl ?_
   (refine ad rfl fun K0 Z => ?_; simp only [zE, op1, ev, lkp, ai, ah, ev, reduceCtorEq, E, D, J, Y, U, V, Tryd.td3]; refine Z _ ?_; clear Z K0; simp only [put, app, aa, ag, zE, zS, D])
   refine aj ?_
   refine hK11 _ ?_; clear hK11; refine af [0, 1, 4, 5, 8, 11] ?_; simp only [a8, lkp, zE, reduceCtorEq, E, a9, D]
   refine aZ ?_
   refine c8 (fun n12 s12 => ∃ (k : Nat), (k ≤ w.length) ∧ (∀ i, i < k → 0 ≤ w.getD i 0 ∧ w.getD i 0 < n) ∧ n12 = w.length - k ∧ s12 = { env := [(0, .one (.list (.int .i64) w)), (1, .one (.int .i64 n)), (5, .one (.int .i64 (k : Int)))], L := [] }) ?_ ?_
   ·exact ⟨_, _, bb [0, 1, 5], 0, Nat.zero_le _, fun i hi => by omega, rfl, rfl⟩
   ·rintro n12 s12 ⟨k, hk, hI, rfl, rfl⟩
    refine ae fun K13 hK13 => ?_
    refine ae fun K14 hK14 => ?_
    refine ak hP hN rfl ?_
    iterate 4 (refine ad rfl fun K0 Z => ?_; simp only [zE, op1, ev, lkp, ai, ah, aH, bE, br, bl, bn, bI, Nat.div_one, aP, bp, Ty.size, aI, dite_true, aD, aE, aF, ar, aB, aS, reduceCtorEq, E, D, J, Y, U, V, Tryd.el25, Tryd.td25, Tryd.td3, Tryd.td4]; (repeat refine And.intro (by first | omega | assumption | exact rfl) ?_); (first | refine Z _ ?_ | refine Or.inl (Z _ ?_)); clear Z K0; simp only [put, app, aa, ag, zE, zS, D])
    refine aj ?_
    refine hK14 _ ?_; clear hK14; refine af [0, 1, 5, 15] ?_; simp only [a8, lkp, zE, reduceCtorEq, E, a9, D]
    refine aG (by simp only [ev, a8, lkp, zE, reduceCtorEq, E, a9, D]; exact rfl) (fun hc15 => ?_) (fun hc15 => ?_)
    ·(try simp only [zB, reduceCtorEq] at hc15)
     refine aM ?_
     refine hK13 _ ?_; clear hK13; refine af [0, 1, 5, 15] ?_; simp only [a8, lkp, zE, reduceCtorEq, E, a9, D]
     refine ae fun K16 hK16 => ?_
     refine aZ ?_
     refine ae fun K17 hK17 => ?_
     refine ak hP hN rfl ?_
     iterate 5 (refine ad rfl fun K0 Z => ?_; simp only [zE, op1, ev, lkp, ai, ah, aU, zG, Ty.dflt, Ty.size, Nat.mul_one, ne_eq, not_false_eq_true, Int.natCast_one, Int.mul_one, aC, az, aA, acs, ax, aD, aE, aF, ar, aB, aS, reduceCtorEq, E, D, J, Y, U, V, Tryd.el25, Tryd.td25, Tryd.td3, Tryd.td4]; (repeat refine And.intro (by first | omega | assumption | exact rfl) ?_); refine Z _ ?_; clear Z K0; simp only [put, app, aa, ag, zE, zS, D])
     (refine ad rfl fun K0 Z => ?_; simp only [zE, op1, ev, lkp, ai, ah, ev, reduceCtorEq, E, D, J, Y, U, V, Tryd.td4]; refine Z _ ?_; clear Z K0; simp only [put, app, aa, ag, zE, zS, D])
     refine' aW (want := false) 6 rfl (m := 23) (by simp only [a8, lkp, zE, reduceCtorEq, E, a9, D]; exact rfl) (by kernel_rfl) rfl rfl rfl rfl rfl (fun hg18 => ?a18) ?b18 ?c18
     case a18 =>
      have hq18 := hg18; (try simp only [zB, reduceCtorEq] at hg18); simp only [List.take_succ_cons, List.take_zero, List.cons_append, List.nil_append]
      (refine ay rfl fun K0 Z => ?_; simp only [zE, op1, ev, lkp, ai, ah, ev, reduceCtorEq, E, D, J, Y, U, V, Tryd.el25, Tryd.td25]; refine Z _ ?_; clear Z K0; simp only [put, app, aa, ag, zE, zS, D])
      (refine ay rfl fun K0 Z => ?_; simp only [zE, op1, ev, lkp, ai, ah, ev, reduceCtorEq, E, D, J, Y, U, V, Tryd.td3]; refine Z _ ?_; clear Z K0; simp only [put, app, aa, ag, zE, zS, D])
      (refine ay rfl fun K0 Z => ?_; simp only [zE, op1, ev, lkp, ai, ah, aU, zG, Ty.dflt, Ty.size, Nat.mul_one, ne_eq, not_false_eq_true, Int.natCast_one, Int.mul_one, reduceCtorEq, E, D, J, Y, U, V, Tryd.el25, Tryd.td25]; (repeat refine And.intro (by first | omega | assumption | exact rfl) ?_); refine Z _ ?_; clear Z K0; simp only [put, app, aa, ag, zE, zS, D])
      (refine ay rfl fun K0 Z => ?_; simp only [zE, op1, ev, lkp, ai, ah, aC, Nat.mul_one, az, aA, acs, Ty.dflt, zG, ax, reduceCtorEq, E, D, J, Y, U, V, Tryd.td3]; (repeat refine And.intro (by first | omega | assumption | exact rfl) ?_); refine Z _ ?_; clear Z K0; simp only [put, app, aa, ag, zE, zS, D])
      (refine ay rfl fun K0 Z => ?_; simp only [zE, op1, ev, lkp, ai, ah, ev, reduceCtorEq, E, D, J, Y, U, V, Tryd.td3]; refine Z _ ?_; clear Z K0; simp only [put, app, aa, ag, zE, zS, D])
      (refine ay rfl fun K0 Z => ?_; simp only [zE, op1, ev, lkp, ai, ah, aD, aE, aF, ar, aB, aS, reduceCtorEq, E, D, J, Y, U, V, Tryd.td3, Tryd.td4]; (repeat refine And.intro (by first | omega | assumption | exact rfl) ?_); refine Z _ ?_; clear Z K0; simp only [put, app, aa, ag, zE, zS, D])
      (refine ad rfl fun K0 Z => ?_; simp only [zE, op1, ev, lkp, ai, ah, bt, reduceCtorEq, E, D, J, Y, U, V, Tryd.td4]; refine Z _ ?_; clear Z K0; simp only [put, app, aa, ag, zE, zS, D])
      refine aj ?_
      refine ⟨by simp only [a8, lkp, zE, reduceCtorEq, E, a9, D]; exact rfl, rfl, ?_, rfl⟩; (repeat refine aV rfl ?_); exact bB (by exact rfl) hq18
     case b18 => exact bz (by first | rfl | (simp [bW]; done) | decide)
     simp only [bj, ba]
     refine aj ?_
     refine hK17 _ ?_; clear hK17; refine af [0, 1, 5, 15, 30] ?_; simp only [a8, lkp, zE, reduceCtorEq, E, a9, D]
     refine aG (by simp only [ev, a8, lkp, zE, reduceCtorEq, E, a9, D]; exact rfl) (fun hc19 => ?_) (fun hc19 => ?_)
     ·(try simp only [zB, reduceCtorEq] at hc19)
      refine ae fun K20 hK20 => ?_
      refine ak hP hN rfl ?_
      (refine ad rfl fun K0 Z => ?_; simp only [zE, op1, ev, lkp, ai, ah, ev, reduceCtorEq, E, D, J, Y, U, V, Tryd.td3]; refine Z _ ?_; clear Z K0; simp only [put, app, aa, ag, zE, zS, D])
      refine aj ?_
      refine hK20 _ ?_; clear hK20; refine af [0, 1, 4, 5, 15, 30] ?_; simp only [a8, lkp, zE, reduceCtorEq, E, a9, D]
      refine aJ ?_
      refine ⟨by first | exact .inl rfl | exact .inr rfl, _, rfl, ?_⟩; simp only [fzV, fz1, fzC, List.map_cons, List.map_nil, a8, lkp, zE, reduceCtorEq, E, a9, D]
      refine VLE.of_eq ?_
      refine congrArg (fun n => AV.one (AC.int IntKind.i64 n)) ?_
      symm
      first
      | (unfold bY; rw [if_pos (by omega)]; done)
      | (unfold bY; rw [if_neg (by omega), if_pos (by omega)]; done)
      | exact eV (by omega) (by omega) (by omega) (i := k) (by omega) (by omega)
      | exact eC (by omega) (by omega) ⟨by omega, fun i hi => hI i (by omega)⟩
     ·(try simp only [zB, reduceCtorEq] at hc19)
      refine aM ?_
      refine hK16 _ ?_; clear hK16; refine af [0, 1, 5, 15, 30] ?_; simp only [a8, lkp, zE, reduceCtorEq, E, a9, D]
      refine ak hP hN rfl ?_
      iterate 3 (refine ad rfl fun K0 Z => ?_; simp only [zE, op1, ev, lkp, ai, ah, aD, aE, aF, ar, aB, aS, reduceCtorEq, E, D, J, Y, U, V, Tryd.td3]; (repeat refine And.intro (by first | omega | assumption | exact rfl) ?_); refine Z _ ?_; clear Z K0; simp only [put, app, aa, ag, zE, zS, D])
      refine aj ?_
      refine ⟨_, _, ?_, bb [0, 1, 5], k + 1, by omega, fun i hi => ?_, rfl, rfl⟩
      · omega
      · by_cases e : i = k
        · rw [e]; omega
        · exact hI i (by omega)
    ·(try simp only [zB, reduceCtorEq] at hc15)
     refine bZ ?_
     refine hK10 _ ?_; clear hK10; refine af [0, 1, 5, 15] ?_; simp only [a8, lkp, zE, reduceCtorEq, E, a9, D]
     refine ae fun K21 hK21 => ?_
     refine ak hP hN rfl ?_
     (refine ad rfl fun K0 Z => ?_; simp only [zE, op1, ev, lkp, ai, ah, ev, reduceCtorEq, E, D, J, Y, U, V, Tryd.td3]; refine Z _ ?_; clear Z K0; simp only [put, app, aa, ag, zE, zS, D])
     refine aj ?_
     refine hK21 _ ?_; clear hK21; refine af [0, 1, 4, 5, 15] ?_; simp only [a8, lkp, zE, reduceCtorEq, E, a9, D]
     refine aJ ?_
     refine ⟨by first | exact .inl rfl | exact .inr rfl, _, rfl, ?_⟩; simp only [fzV, fz1, fzC, List.map_cons, List.map_nil, a8, lkp, zE, reduceCtorEq, E, a9, D]
     refine VLE.of_eq ?_
     refine congrArg (fun n => AV.one (AC.int IntKind.i64 n)) ?_
     symm
     first
     | (unfold bY; rw [if_pos (by omega)]; done)
     | (unfold bY; rw [if_neg (by omega), if_pos (by omega)]; done)
     | exact eV (by omega) (by omega) (by omega) (i := k) (by omega) (by omega)
     | exact eC (by omega) (by omega) ⟨by omega, fun i hi => hI i (by omega)⟩
end Go.Proofs.YtgmgnkmgofkfpaaDoor
namespace Go.Proofs.YtgmgnkmgofkfpaaDoor
open Go Go.AV
open Nat renaming reduceEqDiff → E, reduceAdd → D, reduceLeDiff → J, reduceLT → Y, reduceMul → U, reduceSub → V
open List renaming set_cons_zero → aq, set_cons_succ → ao
set_option maxRecDepth 100000 in
theorem mF (p : Mpr) : cj Tryd.prog 15 [p.av] (.one (.bool ((decide ((p.nx.length : Int) ≤ 10) && decide ((p.sy.length : Int) ≤ 10)) && decide (p.inp ≤ 6)))) := by
 refine bu Tryd.func15 rfl (by kernel_rfl) (Nat.le_of_ble_eq_true rfl) rfl fun C hP hN hB => ?_
 replace hN : C.N = 18 := hN
 simp only [a9, D]
 refine ae fun K1 hK1 => ?_
 refine ak hP hN rfl ?_
 iterate 2 (refine ad rfl fun K0 Z => ?_; simp only [zE, op1, ev, lkp, ai, ah, cW, au, reduceCtorEq, E, D, J, Y, U, V, Tryd.st24, Tryd.td24, Tryd.td4, Mpr.av]; (repeat refine And.intro (by first | omega | assumption | exact rfl) ?_); refine Z _ ?_; clear Z K0; simp only [put, app, aa, ag, zE, zS, D])
 refine aj ?_
 refine hK1 _ ?_; clear hK1; refine af [0, 1, 2] ?_; simp only [a8, lkp, zE, reduceCtorEq, E, a9, D]
 refine ae fun K2 hK2 => ?_
 refine ak hP hN rfl ?_
 iterate 4 (refine ad rfl fun K0 Z => ?_; simp only [zE, op1, ev, lkp, ai, ah, aw, aC, Nat.mul_one, az, aA, acs, Ty.dflt, zG, ax, aH, bE, br, bl, bn, bI, Nat.div_one, aP, bp, Ty.size, aI, dite_true, aD, aE, aF, ar, aB, aS, reduceCtorEq, E, D, J, Y, U, V, Tryd.el22, Tryd.st24, Tryd.td22, Tryd.td24, Tryd.td3, Tryd.td4, Mpr.av]; (repeat refine And.intro (by first | omega | assumption | exact rfl) ?_); (first | refine Z _ ?_ | refine Or.inl (Z _ ?_)); clear Z K0; simp only [put, app, aa, ag, zE, zS, D])
 (refine ad rfl fun K0 Z => ?_; simp only [zE, op1, ev, lkp, ai, ah, ev, reduceCtorEq, E, D, J, Y, U, V, Tryd.td4, Mpr.av]; refine Z _ ?_; clear Z K0; simp only [put, app, aa, ag, zE, zS, D])
 refine' aW (want := true) 4 rfl (m := 7) (by simp only [a8, lkp, zE, reduceCtorEq, E, a9, D]; exact rfl) (by kernel_rfl) rfl rfl rfl rfl rfl (fun hg3 => ?a3) ?b3 ?c3
 case a3 =>
  have hq3 := hg3; (try simp only [zB, reduceCtorEq] at hg3); simp only [List.take_succ_cons, List.take_zero, List.cons_append, List.nil_append]
  (refine ay rfl fun K0 Z => ?_; simp only [zE, op1, ev, lkp, ai, ah, aw, reduceCtorEq, E, D, J, Y, U, V, Tryd.st24, Tryd.td24, Tryd.td4, Mpr.av]; (repeat refine And.intro (by first | omega | assumption | exact rfl) ?_); refine Z _ ?_; clear Z K0; simp only [put, app, aa, ag, zE, zS, D])
  (refine ay rfl fun K0 Z => ?_; simp only [zE, op1, ev, lkp, ai, ah, aC, Nat.mul_one, az, aA, acs, Ty.dflt, zG, ax, reduceCtorEq, E, D, J, Y, U, V, Tryd.el22, Tryd.td22, Mpr.av]; (repeat refine And.intro (by first | omega | assumption | exact rfl) ?_); refine Z _ ?_; clear Z K0; simp only [put, app, aa, ag, zE, zS, D])
  (refine ay rfl fun K0 Z => ?_; simp only [zE, op1, ev, lkp, ai, ah, aH, bE, br, bl, bn, bI, Nat.div_one, aP, bp, Ty.size, aI, dite_true, reduceCtorEq, E, D, J, Y, U, V, Tryd.el22, Tryd.td22, Tryd.td3, Mpr.av]; (repeat refine And.intro (by first | omega | assumption | exact rfl) ?_); (first | refine Z _ ?_ | refine Or.inl (Z _ ?_)); clear Z K0; simp only [put, app, aa, ag, zE, zS, D])
  (refine ay rfl fun K0 Z => ?_; simp only [zE, op1, ev, lkp, ai, ah, aD, aE, aF, ar, aB, aS, reduceCtorEq, E, D, J, Y, U, V, Tryd.td3, Tryd.td4, Mpr.av]; (repeat refine And.intro (by first | omega | assumption | exact rfl) ?_); refine Z _ ?_; clear Z K0; simp only [put, app, aa, ag, zE, zS, D])
  (refine ad rfl fun K0 Z => ?_; simp only [zE, op1, ev, lkp, ai, ah, bt, reduceCtorEq, E, D, J, Y, U, V, Tryd.td4, Mpr.av]; refine Z _ ?_; clear Z K0; simp only [put, app, aa, ag, zE, zS, D])
  refine aj ?_
  refine ⟨by simp only [a8, lkp, zE, reduceCtorEq, E, a9, D]; exact rfl, rfl, ?_, rfl⟩; (repeat refine aV rfl ?_); exact bB (by exact rfl) hq3
 case b3 => exact bz (by first | rfl | (simp [bW]; done) | decide)
 simp only [bj, ba]
 (refine ad rfl fun K0 Z => ?_; simp only [zE, op1, ev, lkp, ai, ah, ev, reduceCtorEq, E, D, J, Y, U, V, Tryd.td4, Mpr.av]; refine Z _ ?_; clear Z K0; simp only [put, app, aa, ag, zE, zS, D])
 refine' aW (want := true) 3 rfl (m := 13) (by simp only [a8, lkp, zE, reduceCtorEq, E, a9, D]; exact rfl) (by kernel_rfl) rfl rfl rfl rfl rfl (fun hg4 => ?a4) ?b4 ?c4
 case a4 =>
  have hq4 := hg4; (try simp only [zB, reduceCtorEq] at hg4); simp only [List.take_succ_cons, List.take_zero, List.cons_append, List.nil_append]
  (refine ay rfl fun K0 Z => ?_; simp only [zE, op1, ev, lkp, ai, ah, aw, reduceCtorEq, E, D, J, Y, U, V, Tryd.st24, Tryd.td24, Mpr.av]; (repeat refine And.intro (by first | omega | assumption | exact rfl) ?_); refine Z _ ?_; clear Z K0; simp only [put, app, aa, ag, zE, zS, D])
  (refine ay rfl fun K0 Z => ?_; simp only [zE, op1, ev, lkp, ai, ah, aC, Nat.mul_one, az, aA, acs, Ty.dflt, zG, ax, reduceCtorEq, E, D, J, Y, U, V, Tryd.td3, Mpr.av]; (repeat refine And.intro (by first | omega | assumption | exact rfl) ?_); refine Z _ ?_; clear Z K0; simp only [put, app, aa, ag, zE, zS, D])
  (refine ay rfl fun K0 Z => ?_; simp only [zE, op1, ev, lkp, ai, ah, aD, aE, aF, ar, aB, aS, reduceCtorEq, E, D, J, Y, U, V, Tryd.td3, Tryd.td4, Mpr.av]; (repeat refine And.intro (by first | omega | assumption | exact rfl) ?_); refine Z _ ?_; clear Z K0; simp only [put, app, aa, ag, zE, zS, D])
  (refine ad rfl fun K0 Z => ?_; simp only [zE, op1, ev, lkp, ai, ah, bt, reduceCtorEq, E, D, J, Y, U, V, Tryd.td4, Mpr.av]; refine Z _ ?_; clear Z K0; simp only [put, app, aa, ag, zE, zS, D])
  refine aj ?_
  refine ⟨by simp only [a8, lkp, zE, reduceCtorEq, E, a9, D]; exact rfl, rfl, ?_, rfl⟩; (repeat refine aV rfl ?_); exact bB (by exact rfl) hq4
 case b4 => exact bz (by first | rfl | (simp [bW]; done) | decide)
 simp only [bj, ba]
 (refine ad rfl fun K0 Z => ?_; simp only [zE, op1, ev, lkp, ai, ah, ev, reduceCtorEq, E, D, J, Y, U, V, Tryd.td4, Mpr.av]; refine Z _ ?_; clear Z K0; simp only [put, app, aa, ag, zE, zS, D])
 refine aj ?_
 refine hK2 _ ?_; clear hK2; refine af [0, 1, 2] ?_; simp only [a8, lkp, zE, reduceCtorEq, E, a9, D]
 refine aJ ?_
 refine ⟨by first | exact .inl rfl | exact .inr rfl, _, rfl, ?_⟩; simp only [fzV, fz1, fzC, List.map_cons, List.map_nil, a8, lkp, zE, reduceCtorEq, E, a9, D, Mpr.av]
 refine VLE.of_eq ?_
 rfl
end Go.Proofs.YtgmgnkmgofkfpaaDoor
namespace Go.Proofs.YtgmgnkmgofkfpaaDoor
open Go Go.AV
open Nat renaming reduceEqDiff → E, reduceAdd → D, reduceLeDiff → J, reduceLT → Y, reduceMul → U, reduceSub → V
open List renaming set_cons_zero → aq, set_cons_succ → ao
set_option maxRecDepth 100000 in
theorem pZ (m : Mly) : cj Tryd.prog 21 [m.av] (.one (.bool ((decide ((m.nx.length : Int) ≤ 12) && decide ((m.ot.length : Int) ≤ 12)) && decide (m.inp ≤ 4)))) := by
 refine bu Tryd.func21 rfl (by kernel_rfl) (Nat.le_of_ble_eq_true rfl) rfl fun C hP hN hB => ?_
 replace hN : C.N = 18 := hN
 simp only [a9, D]
 refine ae fun K1 hK1 => ?_
 refine ak hP hN rfl ?_
 iterate 2 (refine ad rfl fun K0 Z => ?_; simp only [zE, op1, ev, lkp, ai, ah, cW, au, reduceCtorEq, E, D, J, Y, U, V, Tryd.st47, Tryd.td4, Tryd.td47, Mly.av]; (repeat refine And.intro (by first | omega | assumption | exact rfl) ?_); refine Z _ ?_; clear Z K0; simp only [put, app, aa, ag, zE, zS, D])
 refine aj ?_
 refine hK1 _ ?_; clear hK1; refine af [0, 1, 2] ?_; simp only [a8, lkp, zE, reduceCtorEq, E, a9, D]
 refine ae fun K2 hK2 => ?_
 refine ak hP hN rfl ?_
 iterate 4 (refine ad rfl fun K0 Z => ?_; simp only [zE, op1, ev, lkp, ai, ah, aw, aC, Nat.mul_one, az, aA, acs, Ty.dflt, zG, ax, aH, bE, br, bl, bn, bI, Nat.div_one, aP, bp, Ty.size, aI, dite_true, aD, aE, aF, ar, aB, aS, reduceCtorEq, E, D, J, Y, U, V, Tryd.el22, Tryd.st47, Tryd.td2, Tryd.td22, Tryd.td3, Tryd.td4, Tryd.td47, Mly.av]; (repeat refine And.intro (by first | omega | assumption | exact rfl) ?_); (first | refine Z _ ?_ | refine Or.inl (Z _ ?_)); clear Z K0; simp only [put, app, aa, ag, zE, zS, D])
 (refine ad rfl fun K0 Z => ?_; simp only [zE, op1, ev, lkp, ai, ah, ev, reduceCtorEq, E, D, J, Y, U, V, Tryd.td4, Mly.av]; refine Z _ ?_; clear Z K0; simp only [put, app, aa, ag, zE, zS, D])
 refine' aW (want := true) 4 rfl (m := 7) (by simp only [a8, lkp, zE, reduceCtorEq, E, a9, D]; exact rfl) (by kernel_rfl) rfl rfl rfl rfl rfl (fun hg3 => ?a3) ?b3 ?c3
 case a3 =>
  have hq3 := hg3; (try simp only [zB, reduceCtorEq] at hg3); simp only [List.take_succ_cons, List.take_zero, List.cons_append, List.nil_append]
  (refine ay rfl fun K0 Z => ?_; simp only [zE, op1, ev, lkp, ai, ah, aw, reduceCtorEq, E, D, J, Y, U, V, Tryd.st47, Tryd.td3, Tryd.td47, Mly.av]; (repeat refine And.intro (by first | omega | assumption | exact rfl) ?_); refine Z _ ?_; clear Z K0; simp only [put, app, aa, ag, zE, zS, D])
  (refine ay rfl fun K0 Z => ?_; simp only [zE, op1, ev, lkp, ai, ah, aC, Nat.mul_one, az, aA, acs, Ty.dflt, zG, ax, reduceCtorEq, E, D, J, Y, U, V, Tryd.el22, Tryd.td22, Mly.av]; (repeat refine And.intro (by first | omega | assumption | exact rfl) ?_); refine Z _ ?_; clear Z K0; simp only [put, app, aa, ag, zE, zS, D])
  (refine ay rfl fun K0 Z => ?_; simp only [zE, op1, ev, lkp, ai, ah, aH, bE, br, bl, bn, bI, Nat.div_one, aP, bp, Ty.size, aI, dite_true, reduceCtorEq, E, D, J, Y, U, V, Tryd.el22, Tryd.td22, Tryd.td3, Mly.av]; (repeat refine And.intro (by first | omega | assumption | exact rfl) ?_); (first | refine Z _ ?_ | refine Or.inl (Z _ ?_)); clear Z K0; simp only [put, app, aa, ag, zE, zS, D])
  (refine ay rfl fun K0 Z => ?_; simp only [zE, op1, ev, lkp, ai, ah, aD, aE, aF, ar, aB, aS, reduceCtorEq, E, D, J, Y, U, V, Tryd.td3, Tryd.td4, Mly.av]; (repeat refine And.intro (by first | omega | assumption | exact rfl) ?_); refine Z _ ?_; clear Z K0; simp only [put, app, aa, ag, zE, zS, D])
  (refine ad rfl fun K0 Z => ?_; simp only [zE, op1, ev, lkp, ai, ah, bt, reduceCtorEq, E, D, J, Y, U, V, Tryd.td4, Mly.av]; refine Z _ ?_; clear Z K0; simp only [put, app, aa, ag, zE, zS, D])
  refine aj ?_
  refine ⟨by simp only [a8, lkp, zE, reduceCtorEq, E, a9, D]; exact rfl, rfl, ?_, rfl⟩; (repeat refine aV rfl ?_); exact bB (by exact rfl) hq3
 case b3 => exact bz (by first | rfl | (simp [bW]; done) | decide)
 simp only [bj, ba]
 (refine ad rfl fun K0 Z => ?_; simp only [zE, op1, ev, lkp, ai, ah, ev, reduceCtorEq, E, D, J, Y, U, V, Tryd.td4, Mly.av]; refine Z _ ?_; clear Z K0; simp only [put, app, aa, ag, zE, zS, D])
 refine' aW (want := true) 3 rfl (m := 13) (by simp only [a8, lkp, zE, reduceCtorEq, E, a9, D]; exact rfl) (by kernel_rfl) rfl rfl rfl rfl rfl (fun hg4 => ?a4) ?b4 ?c4
 case a4 =>
  have hq4 := hg4; (try simp only [zB, reduceCtorEq] at hg4); simp only [List.take_succ_cons, List.take_zero, List.cons_append, List.nil_append]
  (refine ay rfl fun K0 Z => ?_; simp only [zE, op1, ev, lkp, ai, ah, aw, reduceCtorEq, E, D, J, Y, U, V, Tryd.st47, Tryd.td47, Mly.av]; (repeat refine And.intro (by first | omega | assumption | exact rfl) ?_); refine Z _ ?_; clear Z K0; simp only [put, app, aa, ag, zE, zS, D])
  (refine ay rfl fun K0 Z => ?_; simp only [zE, op1, ev, lkp, ai, ah, aC, Nat.mul_one, az, aA, acs, Ty.dflt, zG, ax, reduceCtorEq, E, D, J, Y, U, V, Tryd.td3, Mly.av]; (repeat refine And.intro (by first | omega | assumption | exact rfl) ?_); refine Z _ ?_; clear Z K0; simp only [put, app, aa, ag, zE, zS, D])
  (refine ay rfl fun K0 Z => ?_; simp only [zE, op1, ev, lkp, ai, ah, aD, aE, aF, ar, aB, aS, reduceCtorEq, E, D, J, Y, U, V, Tryd.td3, Tryd.td4, Mly.av]; (repeat refine And.intro (by first | omega | assumption | exact rfl) ?_); refine Z _ ?_; clear Z K0; simp only [put, app, aa, ag, zE, zS, D])
  (refine ad rfl fun K0 Z => ?_; simp only [zE, op1, ev, lkp, ai, ah, bt, reduceCtorEq, E, D, J, Y, U, V, Tryd.td4, Mly.av]; refine Z _ ?_; clear Z K0; simp only [put, app, aa, ag, zE, zS, D])
  refine aj ?_
  refine ⟨by simp only [a8, lkp, zE, reduceCtorEq, E, a9, D]; exact rfl, rfl, ?_, rfl⟩; (repeat refine aV rfl ?_); exact bB (by exact rfl) hq4
 case b4 => exact bz (by first | rfl | (simp [bW]; done) | decide)
 simp only [bj, ba]
 (refine ad rfl fun K0 Z => ?_; simp only [zE, op1, ev, lkp, ai, ah, ev, reduceCtorEq, E, D, J, Y, U, V, Tryd.td4, Mly.av]; refine Z _ ?_; clear Z K0; simp only [put, app, aa, ag, zE, zS, D])
 refine aj ?_
 refine hK2 _ ?_; clear hK2; refine af [0, 1, 2] ?_; simp only [a8, lkp, zE, reduceCtorEq, E, a9, D]
 refine aJ ?_
 refine ⟨by first | exact .inl rfl | exact .inr rfl, _, rfl, ?_⟩; simp only [fzV, fz1, fzC, List.map_cons, List.map_nil, a8, lkp, zE, reduceCtorEq, E, a9, D, Mly.av]
 refine VLE.of_eq ?_
 rfl
end Go.Proofs.YtgmgnkmgofkfpaaDoor
namespace Go.Proofs.YtgmgnkmgofkfpaaDoor
open Go Go.AV
open Nat renaming reduceEqDiff → E, reduceAdd → D, reduceLeDiff → J, reduceLT → Y, reduceMul → U, reduceSub → V
open List renaming set_cons_zero → aq, set_cons_succ → ao
set_option maxRecDepth 100000 in
set_option maxHeartbeats 1000000 in
theorem qI (m : Mly) (p : Mpr) : cj Tryd.prog 8 [m.av, p.av] (.one (.bool true)) := by
 refine bu Tryd.func8 rfl (by kernel_rfl) (Nat.le_of_ble_eq_true rfl) rfl fun C hP hN hB => ?_
 replace hN : C.N = 65 := hN
 simp only [a9, D]
 refine ae fun K1 hK1 => ?_
 refine ak hP hN rfl ?_
 iterate 3 (refine ad rfl fun K0 Z => ?_; simp only [zE, op1, ev, lkp, ai, ah, cW, au, reduceCtorEq, E, D, J, Y, U, V, Tryd.st24, Tryd.st47, Tryd.td24, Tryd.td4, Tryd.td47, Mpr.av, Mly.av, Mres.av]; (repeat refine And.intro (by first | omega | assumption | exact rfl) ?_); refine Z _ ?_; clear Z K0; simp only [put, app, aa, ag, zE, zS, D, Mres.av])
 refine aj ?_
 refine hK1 _ ?_; clear hK1; refine af [0, 1, 2, 3, 4] ?_; simp only [a8, lkp, zE, reduceCtorEq, E, a9, D]
 refine ae fun K2 hK2 => ?_
 refine ae fun K3 hK3 => ?_
 refine ak hP hN rfl ?_
 (refine ad rfl fun K0 Z => ?_; simp only [zE, op1, ev, lkp, ai, ah, aC, Nat.mul_one, az, aA, acs, Ty.dflt, zG, ax, reduceCtorEq, E, D, J, Y, U, V, Tryd.st47, Tryd.td47, Mpr.av, Mly.av, Mres.av]; (repeat refine And.intro (by first | omega | assumption | exact rfl) ?_); refine Z _ ?_; clear Z K0; simp only [put, app, aa, ag, zE, zS, D, Mres.av])
 refine ad rfl fun K0 Z => ?_
 refine aY (h := aL (pZ m)) rfl rfl (by first | exact rfl | (simp only [ev, a8, lkp, zE, reduceCtorEq, E, a9, D]; exact rfl)) (by simp only [zE, zG, op1, ev, lkp, ai, ah, au, acs, bm, mv1, mvC, Ty.dflt, reduceCtorEq, E, D, J, Y, U, V, Mpr.av, Mly.av, Mres.av]) ?_
 refine Z _ ?_; clear Z K0; simp only [put, app, aa, ag, zE, zS, D, Mres.av]
 (refine ad rfl fun K0 Z => ?_; simp only [zE, op1, ev, lkp, ai, ah, ez, reduceCtorEq, E, D, J, Y, U, V, Tryd.td4, Mpr.av, Mly.av, Mres.av]; (repeat refine And.intro (by first | omega | assumption | exact rfl) ?_); refine Z _ ?_; clear Z K0; simp only [put, app, aa, ag, zE, zS, D, Mres.av])
 (refine ad rfl fun K0 Z => ?_; simp only [zE, op1, ev, lkp, ai, ah, ev, reduceCtorEq, E, D, J, Y, U, V, Tryd.td4, Mpr.av, Mly.av, Mres.av]; refine Z _ ?_; clear Z K0; simp only [put, app, aa, ag, zE, zS, D, Mres.av])
 refine' aW (want := false) 3 rfl (m := 12) (by simp only [a8, lkp, zE, reduceCtorEq, E, a9, D]; exact rfl) (by kernel_rfl) rfl rfl rfl rfl rfl (fun hg4 => ?a4) ?b4 ?c4
 case a4 =>
  have hq4 := hg4; (try simp only [zB, reduceCtorEq] at hg4); simp only [List.take_succ_cons, List.take_zero, List.cons_append, List.nil_append]
  (refine ay rfl fun K0 Z => ?_; simp only [zE, op1, ev, lkp, ai, ah, aC, Nat.mul_one, az, aA, acs, Ty.dflt, zG, ax, reduceCtorEq, E, D, J, Y, U, V, Tryd.st24, Tryd.td24, Mpr.av, Mly.av, Mres.av]; (repeat refine And.intro (by first | omega | assumption | exact rfl) ?_); refine Z _ ?_; clear Z K0; simp only [put, app, aa, ag, zE, zS, D, Mres.av])
  refine ay rfl fun K0 Z => ?_
  refine aY (h := aL (mF p)) rfl rfl (by first | exact rfl | (simp only [ev, a8, lkp, zE, reduceCtorEq, E, a9, D]; exact rfl)) (by simp only [zE, zG, op1, ev, lkp, ai, ah, au, acs, bm, mv1, mvC, Ty.dflt, reduceCtorEq, E, D, J, Y, U, V, Mpr.av, Mly.av, Mres.av]) ?_
  refine Z _ ?_; clear Z K0; simp only [put, app, aa, ag, zE, zS, D, Mres.av]
  (refine ay rfl fun K0 Z => ?_; simp only [zE, op1, ev, lkp, ai, ah, ez, reduceCtorEq, E, D, J, Y, U, V, Tryd.td4, Mpr.av, Mly.av, Mres.av]; (repeat refine And.intro (by first | omega | assumption | exact rfl) ?_); refine Z _ ?_; clear Z K0; simp only [put, app, aa, ag, zE, zS, D, Mres.av])
  (refine ad rfl fun K0 Z => ?_; simp only [zE, op1, ev, lkp, ai, ah, bt, reduceCtorEq, E, D, J, Y, U, V, Tryd.td4, Mpr.av, Mly.av, Mres.av]; refine Z _ ?_; clear Z K0; simp only [put, app, aa, ag, zE, zS, D, Mres.av])
  refine aj ?_
  refine ⟨by simp only [a8, lkp, zE, reduceCtorEq, E, a9, D]; exact rfl, rfl, ?_, rfl⟩; (repeat refine aV rfl ?_); exact bB (by exact rfl) hq4
 case b4 => exact bz (by first | rfl | (simp [bW]; done) | decide)
 simp only [bj, ba]
 refine aj ?_
 refine hK3 _ ?_; clear hK3; refine af [0, 1, 2, 3, 4, 16] ?_; simp only [a8, lkp, zE, reduceCtorEq, E, a9, D]
 refine aG (by simp only [ev, a8, lkp, zE, reduceCtorEq, E, a9, D]; exact rfl) (fun hc5 => ?_) (fun hc5 => ?_)
 ·(try simp only [zB, reduceCtorEq] at hc5)
  refine ae fun K6 hK6 => ?_
  refine ak hP hN rfl ?_
  refine ad rfl fun K0 Z => ?_
  refine aY (h := aL gl) rfl rfl (by first | exact rfl | (simp only [ev, a8, lkp, zE, reduceCtorEq, E, a9, D]; exact rfl)) (by simp only [zE, zG, op1, ev, lkp, ai, ah, au, acs, bm, mv1, mvC, Ty.dflt, reduceCtorEq, E, D, J, Y, U, V, Mpr.av, Mly.av, Mres.av]) ?_
  refine Z _ ?_; clear Z K0; simp only [put, app, aa, ag, zE, zS, D, Mres.av]
  (refine ad rfl fun K0 Z => ?_; simp only [zE, op1, ev, lkp, ai, ah, ev, reduceCtorEq, E, D, J, Y, U, V, Tryd.td4, Mpr.av, Mly.av, Mres.av]; refine Z _ ?_; clear Z K0; simp only [put, app, aa, ag, zE, zS, D, Mres.av])
  refine aj ?_
  refine hK6 _ ?_; clear hK6; refine af [0, 1, 2, 3, 4, 16] ?_; simp only [a8, lkp, zE, reduceCtorEq, E, a9, D]
  refine aJ ?_
  refine ⟨by first | exact .inl rfl | exact .inr rfl, _, rfl, ?_⟩; simp only [fzV, fz1, fzC, List.map_cons, List.map_nil, a8, lkp, zE, reduceCtorEq, E, a9, D, Mpr.av, Mly.av, Mres.av]
  refine VLE.of_eq ?_
  first | rfl | (refine congrArg (fun b => AV.one (AC.bool b)) ?_; simp [hno]; done) | (refine congrArg (fun b => AV.one (AC.bool b)) ?_; simp [k1, k2, k3, k4]; done)
 ·(try simp only [zB, reduceCtorEq] at hc5)
  refine aM ?_
  refine hK2 _ ?_; clear hK2; refine af [0, 1, 2, 3, 4, 16] ?_; simp only [a8, lkp, zE, reduceCtorEq, E, a9, D]
  refine ae fun K7 hK7 => ?_
  refine ak hP hN rfl ?_
  iterate 2 (refine ad rfl fun K0 Z => ?_; simp only [zE, op1, ev, lkp, ai, ah, aC, Nat.mul_one, az, aA, acs, Ty.dflt, zG, ax, reduceCtorEq, E, D, J, Y, U, V, Tryd.st24, Tryd.st47, Tryd.td24, Tryd.td47, Mpr.av, Mly.av, Mres.av]; (repeat refine And.intro (by first | omega | assumption | exact rfl) ?_); refine Z _ ?_; clear Z K0; simp only [put, app, aa, ag, zE, zS, D, Mres.av])
  refine ad rfl fun K0 Z => ?_
  refine aY (h := aL (kS m p)) rfl rfl (by first | exact rfl | (simp only [ev, a8, lkp, zE, reduceCtorEq, E, a9, D]; exact rfl)) (by simp only [zE, zG, op1, ev, lkp, ai, ah, au, acs, bm, mv1, mvC, Ty.dflt, reduceCtorEq, E, D, J, Y, U, V, Mpr.av, Mly.av, Mres.av, Mres.av]) ?_
  refine Z _ ?_; clear Z K0; simp only [put, app, aa, ag, zE, zS, D, Mres.av]
  iterate 11 (refine ad rfl fun K0 Z => ?_; simp only [zE, op1, ev, lkp, ai, ah, c0, cp, bK, Nat.mul_one, au, aQ, aI, acs, Ty.size, Ty.dflt, zG, reduceCtorEq, E, D, J, Y, U, V, Tryd.st47, Tryd.st50, Tryd.td1, Tryd.td2, Tryd.td26, Tryd.td3, Tryd.td4, Tryd.td47, Tryd.td50, Mpr.av, Mly.av, Mres.av]; (repeat refine And.intro (by first | omega | assumption | exact rfl) ?_); (first | refine Z _ ?_ | refine Or.inl (Z _ ?_)); clear Z K0; simp only [put, app, aa, ag, zE, zS, D, Mres.av])
  refine aj ?_
  refine hK7 _ ?_; clear hK7; refine af [0, 1, 2, 3, 4, 6, 7, 8, 16] ?_; simp only [a8, lkp, zE, reduceCtorEq, E, a9, D]
  refine ae fun K8 hK8 => ?_
  refine ae fun K9 hK9 => ?_
  refine ak hP hN rfl ?_
  iterate 2 (refine ad rfl fun K0 Z => ?_; simp only [zE, op1, ev, lkp, ai, ah, aD, aE, aF, ar, aB, aS, reduceCtorEq, E, D, J, Y, U, V, Tryd.td26, Tryd.td4, Mpr.av, Mly.av, Mres.av]; (repeat refine And.intro (by first | omega | assumption | exact rfl) ?_); refine Z _ ?_; clear Z K0; simp only [put, app, aa, ag, zE, zS, D, Mres.av])
  (refine ad rfl fun K0 Z => ?_; simp only [zE, op1, ev, lkp, ai, ah, ev, reduceCtorEq, E, D, J, Y, U, V, Tryd.td4, Mpr.av, Mly.av, Mres.av]; refine Z _ ?_; clear Z K0; simp only [put, app, aa, ag, zE, zS, D, Mres.av])
  refine' aW (want := false) 1 rfl (m := 28) (by simp only [a8, lkp, zE, reduceCtorEq, E, a9, D]; exact rfl) (by kernel_rfl) rfl rfl rfl rfl rfl (fun hg10 => ?a10) ?b10 ?c10
  case a10 =>
   have hq10 := hg10; (try simp only [zB, reduceCtorEq] at hg10); simp only [List.take_succ_cons, List.take_zero, List.cons_append, List.nil_append]
   (refine ay rfl fun K0 Z => ?_; simp only [zE, op1, ev, lkp, ai, ah, ev, reduceCtorEq, E, D, J, Y, U, V, Tryd.td4, Mpr.av, Mly.av, Mres.av]; refine Z _ ?_; clear Z K0; simp only [put, app, aa, ag, zE, zS, D, Mres.av])
   (refine ad rfl fun K0 Z => ?_; simp only [zE, op1, ev, lkp, ai, ah, bt, reduceCtorEq, E, D, J, Y, U, V, Tryd.td4, Mpr.av, Mly.av, Mres.av]; refine Z _ ?_; clear Z K0; simp only [put, app, aa, ag, zE, zS, D, Mres.av])
   refine aj ?_
   refine ⟨by simp only [a8, lkp, zE, reduceCtorEq, E, a9, D]; exact rfl, rfl, ?_, rfl⟩; (repeat refine aV rfl ?_); exact bB (by exact rfl) hq10
  case b10 => exact bz (by first | rfl | (simp [bW]; done) | decide)
  simp only [bj, ba]
  refine aj ?_
  refine hK9 _ ?_; clear hK9; refine af [0, 1, 2, 3, 4, 6, 7, 8, 16, 30] ?_; simp only [a8, lkp, zE, reduceCtorEq, E, a9, D]
  refine aG (by simp only [ev, a8, lkp, zE, reduceCtorEq, E, a9, D]; exact rfl) (fun hc11 => ?_) (fun hc11 => ?_)
  ·(try simp only [zB, reduceCtorEq] at hc11)
   have hno := nZ (m := m) (p := p) hc11
   refine ae fun K12 hK12 => ?_
   refine ak hP hN rfl ?_
   iterate 4 (refine ad rfl fun K0 Z => ?_; simp only [zE, op1, ev, lkp, ai, ah, aw, aC, Nat.mul_one, az, aA, acs, Ty.dflt, zG, ax, aH, bE, br, bl, bn, bI, Nat.div_one, aP, bp, Ty.size, aI, dite_true, aD, aE, aF, ar, aB, aS, reduceCtorEq, E, D, J, Y, U, V, Tryd.el25, Tryd.st50, Tryd.td25, Tryd.td3, Tryd.td4, Tryd.td50, Mpr.av, Mly.av, Mres.av]; (repeat refine And.intro (by first | omega | assumption | exact rfl) ?_); (first | refine Z _ ?_ | refine Or.inl (Z _ ?_)); clear Z K0; simp only [put, app, aa, ag, zE, zS, D, Mres.av])
   (refine ad rfl fun K0 Z => ?_; simp only [zE, op1, ev, lkp, ai, ah, ev, reduceCtorEq, E, D, J, Y, U, V, Tryd.td4, Mpr.av, Mly.av, Mres.av]; refine Z _ ?_; clear Z K0; simp only [put, app, aa, ag, zE, zS, D, Mres.av])
   refine' aW (want := true) 1 rfl (m := 35) (by simp only [a8, lkp, zE, reduceCtorEq, E, a9, D]; exact rfl) (by kernel_rfl) rfl rfl rfl rfl rfl (fun hg13 => ?a13) ?b13 ?c13
   case a13 =>
    have hq13 := hg13; (try simp only [zB, reduceCtorEq] at hg13); simp only [List.take_succ_cons, List.take_zero, List.cons_append, List.nil_append]
    refine ay rfl fun K0 Z => ?_
    refine aY (h := aL gl) rfl rfl (by first | exact rfl | (simp only [ev, a8, lkp, zE, reduceCtorEq, E, a9, D]; exact rfl)) (by simp only [zE, zG, op1, ev, lkp, ai, ah, au, acs, bm, mv1, mvC, Ty.dflt, reduceCtorEq, E, D, J, Y, U, V, Mpr.av, Mly.av, Mres.av]) ?_
    refine Z _ ?_; clear Z K0; simp only [put, app, aa, ag, zE, zS, D, Mres.av]
    (refine ad rfl fun K0 Z => ?_; simp only [zE, op1, ev, lkp, ai, ah, bt, reduceCtorEq, E, D, J, Y, U, V, Tryd.td4, Mpr.av, Mly.av, Mres.av]; refine Z _ ?_; clear Z K0; simp only [put, app, aa, ag, zE, zS, D, Mres.av])
    refine aj ?_
    refine ⟨by simp only [a8, lkp, zE, reduceCtorEq, E, a9, D]; exact rfl, rfl, ?_, rfl⟩; (repeat refine aV rfl ?_); exact bB (by exact rfl) hq13
   case b13 => exact bz (by first | rfl | (simp [bW]; done) | decide)
   simp only [bj, ba]
   (refine ad rfl fun K0 Z => ?_; simp only [zE, op1, ev, lkp, ai, ah, ev, reduceCtorEq, E, D, J, Y, U, V, Tryd.td4, Mpr.av, Mly.av, Mres.av]; refine Z _ ?_; clear Z K0; simp only [put, app, aa, ag, zE, zS, D, Mres.av])
   refine aj ?_
   refine hK12 _ ?_; clear hK12; refine af [0, 1, 2, 3, 4, 6, 7, 8, 16, 30] ?_; simp only [a8, lkp, zE, reduceCtorEq, E, a9, D]
   refine aJ ?_
   refine ⟨by first | exact .inl rfl | exact .inr rfl, _, rfl, ?_⟩; simp only [fzV, fz1, fzC, List.map_cons, List.map_nil, a8, lkp, zE, reduceCtorEq, E, a9, D, Mpr.av, Mly.av, Mres.av]
   refine VLE.of_eq ?_
   first | rfl | (refine congrArg (fun b => AV.one (AC.bool b)) ?_; simp [hno]; done) | (refine congrArg (fun b => AV.one (AC.bool b)) ?_; simp [k1, k2, k3, k4]; done)
  ·(try simp only [zB, reduceCtorEq] at hc11)
   obtain ⟨k1, k2, k3, k4⟩ := o5 (m := m) (p := p) (by have h9 := hc11; simpa using h9)
   refine aM ?_
   refine hK8 _ ?_; clear hK8; refine af [0, 1, 2, 3, 4, 6, 7, 8, 16, 30] ?_; simp only [a8, lkp, zE, reduceCtorEq, E, a9, D]
   refine ae fun K14 hK14 => ?_
   refine ak hP hN rfl ?_
   iterate 4 (refine ad rfl fun K0 Z => ?_; simp only [zE, op1, ev, lkp, ai, ah, aw, aC, Nat.mul_one, az, aA, acs, Ty.dflt, zG, ax, aH, bE, br, bl, bn, bI, Nat.div_one, aP, bp, Ty.size, aI, dite_true, aD, aE, aF, ar, aB, aS, reduceCtorEq, E, D, J, Y, U, V, Tryd.el25, Tryd.st50, Tryd.td25, Tryd.td3, Tryd.td4, Tryd.td50, Mpr.av, Mly.av, Mres.av]; (repeat refine And.intro (by first | omega | assumption | exact rfl) ?_); (first | refine Z _ ?_ | refine Or.inl (Z _ ?_)); clear Z K0; simp only [put, app, aa, ag, zE, zS, D, Mres.av])
   (refine ad rfl fun K0 Z => ?_; simp only [zE, op1, ev, lkp, ai, ah, ev, reduceCtorEq, E, D, J, Y, U, V, Tryd.td4, Mpr.av, Mly.av, Mres.av]; refine Z _ ?_; clear Z K0; simp only [put, app, aa, ag, zE, zS, D, Mres.av])
   refine' aW (want := true) 5 rfl (m := 42) (by simp only [a8, lkp, zE, reduceCtorEq, E, a9, D]; exact rfl) (by kernel_rfl) rfl rfl rfl rfl rfl (fun hg15 => ?a15) ?b15 ?c15
   case a15 =>
    have hq15 := hg15; (try simp only [zB, reduceCtorEq] at hg15); simp only [List.take_succ_cons, List.take_zero, List.cons_append, List.nil_append]
    (refine ay rfl fun K0 Z => ?_; simp only [zE, op1, ev, lkp, ai, ah, aw, reduceCtorEq, E, D, J, Y, U, V, Tryd.st50, Tryd.td1, Tryd.td50, Mpr.av, Mly.av, Mres.av]; (repeat refine And.intro (by first | omega | assumption | exact rfl) ?_); refine Z _ ?_; clear Z K0; simp only [put, app, aa, ag, zE, zS, D, Mres.av])
    (refine ay rfl fun K0 Z => ?_; simp only [zE, op1, ev, lkp, ai, ah, aC, Nat.mul_one, az, aA, acs, Ty.dflt, zG, ax, reduceCtorEq, E, D, J, Y, U, V, Tryd.td3, Mpr.av, Mly.av, Mres.av]; (repeat refine And.intro (by first | omega | assumption | exact rfl) ?_); refine Z _ ?_; clear Z K0; simp only [put, app, aa, ag, zE, zS, D, Mres.av])
    (refine ay rfl fun K0 Z => ?_; simp only [zE, op1, ev, lkp, ai, ah, aw, reduceCtorEq, E, D, J, Y, U, V, Tryd.st50, Tryd.td2, Tryd.td50, Mpr.av, Mly.av, Mres.av]; (repeat refine And.intro (by first | omega | assumption | exact rfl) ?_); refine Z _ ?_; clear Z K0; simp only [put, app, aa, ag, zE, zS, D, Mres.av])
    (refine ay rfl fun K0 Z => ?_; simp only [zE, op1, ev, lkp, ai, ah, aC, Nat.mul_one, az, aA, acs, Ty.dflt, zG, ax, reduceCtorEq, E, D, J, Y, U, V, Tryd.td3, Mpr.av, Mly.av, Mres.av]; (repeat refine And.intro (by first | omega | assumption | exact rfl) ?_); refine Z _ ?_; clear Z K0; simp only [put, app, aa, ag, zE, zS, D, Mres.av])
    (refine ay rfl fun K0 Z => ?_; simp only [zE, op1, ev, lkp, ai, ah, aD, aE, aF, ar, aB, aS, reduceCtorEq, E, D, J, Y, U, V, Tryd.td3, Tryd.td4, Mpr.av, Mly.av, Mres.av]; (repeat refine And.intro (by first | omega | assumption | exact rfl) ?_); refine Z _ ?_; clear Z K0; simp only [put, app, aa, ag, zE, zS, D, Mres.av])
    (refine ad rfl fun K0 Z => ?_; simp only [zE, op1, ev, lkp, ai, ah, bt, reduceCtorEq, E, D, J, Y, U, V, Tryd.td4, Mpr.av, Mly.av, Mres.av]; refine Z _ ?_; clear Z K0; simp only [put, app, aa, ag, zE, zS, D, Mres.av])
    refine aj ?_
    refine ⟨by simp only [a8, lkp, zE, reduceCtorEq, E, a9, D]; exact rfl, rfl, ?_, rfl⟩; (repeat refine aV rfl ?_); exact bB (by exact rfl) hq15
   case b15 => exact bz (by first | rfl | (simp [bW]; done) | decide)
   simp only [bj, ba]
   (refine ad rfl fun K0 Z => ?_; simp only [zE, op1, ev, lkp, ai, ah, ev, reduceCtorEq, E, D, J, Y, U, V, Tryd.td4, Mpr.av, Mly.av, Mres.av]; refine Z _ ?_; clear Z K0; simp only [put, app, aa, ag, zE, zS, D, Mres.av])
   refine' aW (want := true) 3 rfl (m := 49) (by simp only [a8, lkp, zE, reduceCtorEq, E, a9, D]; exact rfl) (by kernel_rfl) rfl rfl rfl rfl rfl (fun hg16 => ?a16) ?b16 ?c16
   case a16 =>
    have hq16 := hg16; (try simp only [zB, reduceCtorEq] at hg16); simp only [List.take_succ_cons, List.take_zero, List.cons_append, List.nil_append]
    (refine ay rfl fun K0 Z => ?_; simp only [zE, op1, ev, lkp, ai, ah, aw, reduceCtorEq, E, D, J, Y, U, V, Tryd.st50, Tryd.td1, Tryd.td50, Mpr.av, Mly.av, Mres.av]; (repeat refine And.intro (by first | omega | assumption | exact rfl) ?_); refine Z _ ?_; clear Z K0; simp only [put, app, aa, ag, zE, zS, D, Mres.av])
    (refine ay rfl fun K0 Z => ?_; simp only [zE, op1, ev, lkp, ai, ah, aC, Nat.mul_one, az, aA, acs, Ty.dflt, zG, ax, reduceCtorEq, E, D, J, Y, U, V, Tryd.td3, Mpr.av, Mly.av, Mres.av]; (repeat refine And.intro (by first | omega | assumption | exact rfl) ?_); refine Z _ ?_; clear Z K0; simp only [put, app, aa, ag, zE, zS, D, Mres.av])
    (refine ay rfl fun K0 Z => ?_; simp only [zE, op1, ev, lkp, ai, ah, aD, aE, aF, ar, aB, aS, reduceCtorEq, E, D, J, Y, U, V, Tryd.td3, Tryd.td4, Mpr.av, Mly.av, Mres.av]; (repeat refine And.intro (by first | omega | assumption | exact rfl) ?_); refine Z _ ?_; clear Z K0; simp only [put, app, aa, ag, zE, zS, D, Mres.av])
    (refine ad rfl fun K0 Z => ?_; simp only [zE, op1, ev, lkp, ai, ah, bt, reduceCtorEq, E, D, J, Y, U, V, Tryd.td4, Mpr.av, Mly.av, Mres.av]; refine Z _ ?_; clear Z K0; simp only [put, app, aa, ag, zE, zS, D, Mres.av])
    refine aj ?_
    refine ⟨by simp only [a8, lkp, zE, reduceCtorEq, E, a9, D]; exact rfl, rfl, ?_, rfl⟩; (repeat refine aV rfl ?_); exact bB (by exact rfl) hq16
   case b16 => exact bz (by first | rfl | (simp [bW]; done) | decide)
   simp only [bj, ba]
   (refine ad rfl fun K0 Z => ?_; simp only [zE, op1, ev, lkp, ai, ah, ev, reduceCtorEq, E, D, J, Y, U, V, Tryd.td4, Mpr.av, Mly.av, Mres.av]; refine Z _ ?_; clear Z K0; simp only [put, app, aa, ag, zE, zS, D, Mres.av])
   refine' aW (want := true) 6 rfl (m := 54) (by simp only [a8, lkp, zE, reduceCtorEq, E, a9, D]; exact rfl) (by kernel_rfl) rfl rfl rfl rfl rfl (fun hg17 => ?a17) ?b17 ?c17
   case a17 =>
    have hq17 := hg17; (try simp only [zB, reduceCtorEq] at hg17); simp only [List.take_succ_cons, List.take_zero, List.cons_append, List.nil_append]
    (refine ay rfl fun K0 Z => ?_; simp only [zE, op1, ev, lkp, ai, ah, aw, reduceCtorEq, E, D, J, Y, U, V, Tryd.st50, Tryd.td50, Mpr.av, Mly.av, Mres.av]; (repeat refine And.intro (by first | omega | assumption | exact rfl) ?_); refine Z _ ?_; clear Z K0; simp only [put, app, aa, ag, zE, zS, D, Mres.av])
    (refine ay rfl fun K0 Z => ?_; simp only [zE, op1, ev, lkp, ai, ah, aC, Nat.mul_one, az, aA, acs, Ty.dflt, zG, ax, reduceCtorEq, E, D, J, Y, U, V, Tryd.el25, Tryd.td25, Mpr.av, Mly.av, Mres.av]; (repeat refine And.intro (by first | omega | assumption | exact rfl) ?_); refine Z _ ?_; clear Z K0; simp only [put, app, aa, ag, zE, zS, D, Mres.av])
    (refine ay rfl fun K0 Z => ?_; simp only [zE, op1, ev, lkp, ai, ah, aw, reduceCtorEq, E, D, J, Y, U, V, Tryd.st24, Tryd.td1, Tryd.td24, Mpr.av, Mly.av, Mres.av]; (repeat refine And.intro (by first | omega | assumption | exact rfl) ?_); refine Z _ ?_; clear Z K0; simp only [put, app, aa, ag, zE, zS, D, Mres.av])
    (refine ay rfl fun K0 Z => ?_; simp only [zE, op1, ev, lkp, ai, ah, aC, Nat.mul_one, az, aA, acs, Ty.dflt, zG, ax, reduceCtorEq, E, D, J, Y, U, V, Tryd.td3, Mpr.av, Mly.av, Mres.av]; (repeat refine And.intro (by first | omega | assumption | exact rfl) ?_); refine Z _ ?_; clear Z K0; simp only [put, app, aa, ag, zE, zS, D, Mres.av])
    refine ay rfl fun K0 Z => ?_
    refine aY (h := aL (nS (mdl m p).w p.ab)) rfl rfl (by first | exact rfl | (simp only [ev, a8, lkp, zE, reduceCtorEq, E, a9, D]; exact rfl)) (by simp only [zE, zG, op1, ev, lkp, ai, ah, au, acs, bm, mv1, mvC, Ty.dflt, reduceCtorEq, E, D, J, Y, U, V, Mpr.av, Mly.av, Mres.av]) ?_
    refine Z _ ?_; clear Z K0; simp only [put, app, aa, ag, zE, zS, D, Mres.av]
    (refine ay rfl fun K0 Z => ?_; simp only [zE, op1, ev, lkp, ai, ah, aD, aE, aF, ar, aB, aS, reduceCtorEq, E, D, J, Y, U, V, Tryd.td3, Tryd.td4, Mpr.av, Mly.av, Mres.av]; (repeat refine And.intro (by first | omega | assumption | exact rfl) ?_); refine Z _ ?_; clear Z K0; simp only [put, app, aa, ag, zE, zS, D, Mres.av])
    (refine ad rfl fun K0 Z => ?_; simp only [zE, op1, ev, lkp, ai, ah, bt, reduceCtorEq, E, D, J, Y, U, V, Tryd.td4, Mpr.av, Mly.av, Mres.av]; refine Z _ ?_; clear Z K0; simp only [put, app, aa, ag, zE, zS, D, Mres.av])
    refine aj ?_
    refine ⟨by simp only [a8, lkp, zE, reduceCtorEq, E, a9, D]; exact rfl, rfl, ?_, rfl⟩; (repeat refine aV rfl ?_); exact bB (by exact rfl) hq17
   case b17 => exact bz (by first | rfl | (simp [bW]; done) | decide)
   simp only [bj, ba]
   (refine ad rfl fun K0 Z => ?_; simp only [zE, op1, ev, lkp, ai, ah, ev, reduceCtorEq, E, D, J, Y, U, V, Tryd.td4, Mpr.av, Mly.av, Mres.av]; refine Z _ ?_; clear Z K0; simp only [put, app, aa, ag, zE, zS, D, Mres.av])
   refine' aW (want := true) 1 rfl (m := 62) (by simp only [a8, lkp, zE, reduceCtorEq, E, a9, D]; exact rfl) (by kernel_rfl) rfl rfl rfl rfl rfl (fun hg18 => ?a18) ?b18 ?c18
   case a18 =>
    have hq18 := hg18; (try simp only [zB, reduceCtorEq] at hg18); simp only [List.take_succ_cons, List.take_zero, List.cons_append, List.nil_append]
    refine ay rfl fun K0 Z => ?_
    refine aY (h := aL gl) rfl rfl (by first | exact rfl | (simp only [ev, a8, lkp, zE, reduceCtorEq, E, a9, D]; exact rfl)) (by simp only [zE, zG, op1, ev, lkp, ai, ah, au, acs, bm, mv1, mvC, Ty.dflt, reduceCtorEq, E, D, J, Y, U, V, Mpr.av, Mly.av, Mres.av]) ?_
    refine Z _ ?_; clear Z K0; simp only [put, app, aa, ag, zE, zS, D, Mres.av]
    (refine ad rfl fun K0 Z => ?_; simp only [zE, op1, ev, lkp, ai, ah, bt, reduceCtorEq, E, D, J, Y, U, V, Tryd.td4, Mpr.av, Mly.av, Mres.av]; refine Z _ ?_; clear Z K0; simp only [put, app, aa, ag, zE, zS, D, Mres.av])
    refine aj ?_
    refine ⟨by simp only [a8, lkp, zE, reduceCtorEq, E, a9, D]; exact rfl, rfl, ?_, rfl⟩; (repeat refine aV rfl ?_); exact bB (by exact rfl) hq18
   case b18 => exact bz (by first | rfl | (simp [bW]; done) | decide)
   simp only [bj, ba]
   (refine ad rfl fun K0 Z => ?_; simp only [zE, op1, ev, lkp, ai, ah, ev, reduceCtorEq, E, D, J, Y, U, V, Tryd.td4, Mpr.av, Mly.av, Mres.av]; refine Z _ ?_; clear Z K0; simp only [put, app, aa, ag, zE, zS, D, Mres.av])
   refine aj ?_
   refine hK14 _ ?_; clear hK14; refine af [0, 1, 2, 3, 4, 6, 7, 8, 16, 30] ?_; simp only [a8, lkp, zE, reduceCtorEq, E, a9, D]
   refine aJ ?_
   refine ⟨by first | exact .inl rfl | exact .inr rfl, _, rfl, ?_⟩; simp only [fzV, fz1, fzC, List.map_cons, List.map_nil, a8, lkp, zE, reduceCtorEq, E, a9, D, Mpr.av, Mly.av, Mres.av]
   refine VLE.of_eq ?_
   first | rfl | (refine congrArg (fun b => AV.one (AC.bool b)) ?_; simp [hno]; done) | (refine congrArg (fun b => AV.one (AC.bool b)) ?_; simp [k1, k2, k3, k4]; done)
end Go.Proofs.YtgmgnkmgofkfpaaDoor
