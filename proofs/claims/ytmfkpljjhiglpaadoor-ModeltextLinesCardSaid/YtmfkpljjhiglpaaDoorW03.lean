/- Contracts of functions of this seat, each out of a walk through its code, and plain facts on what they compute. Conditions: those that each theorem names. -/
import Derived.Test.YtmfkpljjhiglpaaDoorW02
set_option linter.unusedSimpArgs false
set_option linter.unusedVariables false
set_option maxRecDepth 100000
namespace Go.Proofs.YtmfkpljjhiglpaaDoor
open Go Go.AV
open Nat renaming reduceEqDiff → M, reduceAdd → E, reduceLeDiff → O, reduceLT → Z, reduceMul → Y, reduceSub → V
open List renaming set_cons_zero → bH, set_cons_succ → b0, getD_cons_zero → cK, length_append → ag, map_cons → aV, cons_append → ak, map_nil → bC, length_cons → ah, nil_append → am, take_succ_cons → cb, length_nil → aq, length_map → bV, length_replicate → aI, take_length → aD, mem_cons_self → aR, mem_cons_of_mem → aC
open Int renaming toNat_natCast → aM
section
open Go.RowKit Go.Shelf
attribute [local go_sem] Oper.semAt_some
def R13 (w : World) (k : Nat) (W W' : World) : Prop :=
  (W.heap.size ≤ W'.heap.size ∧ W'.os = W.os ∧ W'.tape = W.tape ∧ W'.output = W.output ∧ ∀ b, b < W.heap.size → b ≠ w.heap.size → b ≠ w.heap.size + 1 → b ≠ w.heap.size + 2 → W'.heap[b]? = W.heap[b]?) ∧
  W'.heap[w.heap.size]? = some (.cells zmC 29 (0, 0)) ∧ Boxed W' (w.heap.size + 1) 3 (.int .i64 ((k : Int) + 1)) ∧ Boxed W' (w.heap.size + 2) 32 (.int .i64 12)
theorem qj {w W W3 : World} {k : Nat} (hp : PS w (k : Int) W) (hc : Chg w.heap.size W.drew W3) (hg : W3.heap[w.heap.size]? = some (.cells zmC 29 (0, 0))) (b3 : Boxed W3 (w.heap.size + 1) 3 (.int .i64 0)) (b4 : Boxed W3 (w.heap.size + 2) 32 (.int .i64 0)) :
    R13 w k W ((W3.setCell ⟨w.heap.size + 1, 0, none⟩ (.int .i64 ((k : Int) + 1))).setCell ⟨w.heap.size + 1 + 1, 0, none⟩ (.int .i64 12)) := by
  have hc1 := dS W3 (w.heap.size + 1) (.int .i64 ((k : Int) + 1))
  have hc2 := dS (W3.setCell ⟨w.heap.size + 1, 0, none⟩ (.int .i64 ((k : Int) + 1))) (w.heap.size + 1 + 1) (.int .i64 12)
  have hz : w.heap.size + 8 < W.drew.heap.size := hp.sz
  have s3 := hc.size
  have s4 := hc1.size
  have s5 := hc2.size
  exact ⟨⟨Nat.le_trans s3 (Nat.le_trans s4 s5), hc2.os.trans (hc1.os.trans hc.os), hc2.tape.trans (hc1.tape.trans hc.tape), hc2.output.trans (hc1.output.trans hc.output), fun b q1 q2 q3 q4 => (hc2.same b q4 (Nat.lt_of_lt_of_le (show b < W.drew.heap.size from q1) (Nat.le_trans s3 s4))).trans ((hc1.same b q3 (Nat.lt_of_lt_of_le (show b < W.drew.heap.size from q1) s3)).trans (hc.same b q2 q1))⟩,
    (hc2.same _ (by omega) (by omega)).trans ((hc1.same _ (by omega) (by omega)).trans hg), hc2.boxed (b3.set _) (by omega), Boxed.set (B := w.heap.size + 1 + 1) _ (hc1.boxed b4 (by omega))⟩
theorem uP {w W W3 : World} {last i er : Int} {cs : Array Value} (hp : PS w last W) (h3 : Chg w.heap.size W W3 ∧ W3.heap[w.heap.size]? = some (.cells cs 29 (0, 0)) ∧ Boxed W3 (w.heap.size + 1) 3 (.int .i64 0) ∧ Boxed W3 (w.heap.size + 2) 32 (.int .i64 0)) (hD : W.heap[w.heap.size + 7]? = some (.deferred (some []))) :
    ∃ Wf, ((W3.setCell ⟨w.heap.size + 1, 0, none⟩ (.int .i64 i)).setCell ⟨w.heap.size + 1 + 1, 0, none⟩ (.int .i64 er)) = Wf ∧ Below w.heap.size w Wf ∧ Wf.heap[w.heap.size]? = some (.cells cs 29 (0, 0)) ∧ Boxed Wf (w.heap.size + 1) 3 (.int .i64 i) ∧ Boxed Wf (w.heap.size + 2) 32 (.int .i64 er) ∧
      Wf.heap[w.heap.size + 7]? = some (.deferred (some [])) ∧ W.heap.size ≤ Wf.heap.size ∧ ∀ b, b < W.heap.size → ¬ XP w.heap.size b → Wf.heap[b]? = W.heap[b]? := by
  obtain ⟨hc, hg, b3, b4⟩ := h3
  have hc1 := dS W3 (w.heap.size + 1) (.int .i64 i)
  have hc2 := dS (W3.setCell ⟨w.heap.size + 1, 0, none⟩ (.int .i64 i)) (w.heap.size + 1 + 1) (.int .i64 er)
  have hz := hp.sz
  have s3 := hc.size
  have s4 := hc1.size
  have s5 := hc2.size
  have hall : ∀ b, b < W.heap.size → b ≠ w.heap.size → b ≠ w.heap.size + 1 → b ≠ w.heap.size + 1 + 1 → ((W3.setCell ⟨w.heap.size + 1, 0, none⟩ (.int .i64 i)).setCell ⟨w.heap.size + 1 + 1, 0, none⟩ (.int .i64 er)).heap[b]? = W.heap[b]? :=
    fun b q1 q2 q3 q4 => (hc2.same b q4 (by omega)).trans ((hc1.same b q3 (by omega)).trans (hc.same b q2 q1))
  refine ⟨_, rfl, hc2.below (hc1.below (hc.below hp.bl (Nat.le_refl _) (Nat.le_refl _)) (Nat.le_refl _) (by omega)) (Nat.le_refl _) (by omega), (hc2.same _ (by omega) (by omega)).trans ((hc1.same _ (by omega) (by omega)).trans hg), hc2.boxed (b3.set _) (by omega), Boxed.set (B := w.heap.size + 1 + 1) _ (hc1.boxed b4 (by omega)), (hall _ (by omega) (by omega) (by omega) (by omega)).trans hD, by omega, fun b hb hx => hall b hb ?_ ?_ ?_⟩
  all_goals (intro e; subst e; exact hx ⟨by omega, by omega⟩)
set_option maxHeartbeats 4000000 in
theorem pp (n : Nat) (hn : 6 ≤ n) (s : Bs) (hs : s.length ≤ 900000) (w : World) : CallsIn Fence.wide n Tryd.prog 11 #[.string ⟨s.toArray⟩] w (MpQ s w) := by
  have h1 : 1 ≤ n := by omega
  have w23 : Fence.wide.fn 23 := trivial
  refine callsIn_of_wp_marks Tryd.func11 rfl trivial ?_ rfl
  simp only [Tryd.ntmps11, List.size_toArray, ah, aq, E, V, Array.replicate_succ, Array.replicate_zero, List.push_toArray, List.append_toArray, am, ak]
  have hbig : ¬ 1048576 < s.length := by omega
  gi_wp2_with (gi_at_call 23; refine (tD (n - 1) _ _).mono ?_; rintro e w' ⟨rfl, rfl⟩)
  obtain ⟨W0, hW0⟩ : ∃ W0, ((iS s w.heap.size).foldl (fun W o => W.alloc o) w) = W0 := ⟨_, rfl⟩
  show Code.wpIn Fence.wide n Tryd.prog _ _ _ ((iS s w.heap.size).foldl (fun W o => W.alloc o) w)
  have hst0 := pR s w
  have hz0 := fv (iS s w.heap.size) w
  rw [hW0] at hst0 hz0 ⊢
  replace hz0 : W0.heap.size = w.heap.size + 7 := hz0
  clear hW0
  refine nn rfl h1 (gf := 34) (lb := #[.pointer (some ⟨w.heap.size + 6, 0, none⟩)]) rfl trivial (enters_of Tryd.func34 (by kernel_rfl) rfl)
    (o4 (n - 1) (by omega) s (by omega) (w.heap.size + 6)) (fun _ => rfl) ?hstp (IPs s w) (IYs s w) (fun c k W => c = .ret ∧ IXs s w k W) (fun k W h => h.2.1) (fun k W h => h.2.1) (fun k W h => qC h)
    ?hIp ?hYp ?hXp ?h0 ?a1 ?hassign ?hbody ?hdone ?hstop
  case hassign =>
    intro l k W K hK
    gi_wp2
    exact hK
  case hstp => intro k W b hb; exact Below.heap_setCell W _ _ b (by show b ≠ w.heap.size + 6; omega)
  case hIp => intro k W r h _; rw [hz0]; exact s7 h
  case hYp => intro k W r h _; rw [hz0]; exact ta h
  case hXp => rintro c k W r ⟨hc, h⟩ hz; rw [hz0] at hz ⊢; exact ⟨hc, sN h hz⟩
  case h0 => intro r; exact hst0 _ _
  case hbody =>
    intro k W hi hne
    have w24 : Fence.wide.fn 24 := trivial
    have hn2 : 1 ≤ n - 1 - 1 := by omega
    have hcall := CallsIn.inRound (n := n - 1 - 1 - 1) (w.heap.size + 7 + 1) (callsIn_wide.2 (oS hs hi hne))
    have c5 := hi.1.b5.cell
    rw [hz0]
    by_cases he : (aS (bG s k) (bS s k)).2 = 0
    · gi_wp2_with (gi_at_call 24; refine hcall.mono ?_; rintro e W2 ⟨⟨rfl, hp, hbx, hhs⟩, hd, hl⟩; have c6 := hp.b6.cell; have f6 := hp.b6.frozen)
      exact ub hp hbx hhs hi.2.2.2 hne he hd hl
    · gi_wp2_with (first | (gi_at_call 24; refine hcall.mono ?_; rintro e W2 ⟨⟨rfl, hp, hbx, hhs⟩, hd, hl⟩) | (refine gU rfl 29 (.tmp 2) (.tmp 25) rfl w.heap.size zmC rfl rfl 29 zmC hp.b2 (by kernel_rfl) rfl zm1 hp.b3 hp.b4 ?_; rintro W3 ⟨hc3, c3, f3, c4, f4⟩))
      obtain ⟨g1, g2⟩ := tL (W := W) hp hi.2.2.2 he hd hl hc3
      exact ⟨g1, rfl, g2⟩
  case hdone =>
    intro k W hf hi hD
    rw [hz0] at hD
    have c5 := hi.1.b5.cell
    have c6 := hi.1.b6.cell
    obtain ⟨v1, v2, v5, v6, v7, hR, ho, hdat⟩ := rj hi.2.2.1
    have d8 : W.cell? ⟨w.heap.size + 3, 8, none⟩ = some (.int .i64 ((bG s k).rd : Int)) := bm hR 8
    have d9 : W.cell? ⟨w.heap.size + 3, 9, none⟩ = some (.int .i64 (bG s k).lf) := bm hR 9
    have d0 : W.cell? ⟨w.heap.size + 3, 0, none⟩ = some (.string ⟨(bG s k).nm.toArray⟩) := bm hR 0
    have d1 : W.cell? ⟨w.heap.size + 3, 1, none⟩ = some v1 := bm hR 1
    have d2 : W.cell? ⟨w.heap.size + 3, 2, none⟩ = some v2 := bm hR 2
    have d3 : W.cell? ⟨w.heap.size + 3, 3, none⟩ = some (.int .i64 (bG s k).inp) := bm hR 3
    have d4 : W.cell? ⟨w.heap.size + 3, 4, none⟩ = some (.int .i64 (bG s k).st) := bm hR 4
    have d5 : W.cell? ⟨w.heap.size + 3, 5, none⟩ = some v5 := bm hR 5
    have d6 : W.cell? ⟨w.heap.size + 3, 6, none⟩ = some v6 := bm hR 6
    rw [hz0]
    have hps := hi.1
    have hend := tR hbig hi.2.2.2 hf
    have b2 := hps.b2
    have h6d : Boxed W.drew (w.heap.size + 5) 3 (.int .i64 (k : Int)) := hps.b6
    have c6d : W.drew.cell? ⟨w.heap.size + 1 + 1 + 1 + 1 + 1, 0, none⟩ = some (.int .i64 (k : Int)) := h6d.cell
    have hkl : k ≤ 1048576 := by have := (kn (by omega : s.length ≤ 1048576) hi.2.2.2).2.2; omega
    by_cases hfin : (bG s k).rd < 5 ∨ ((5 : Int) ≤ ((bG s k).rd : Int) ∧ 0 < (bG s k).lf)
    · rcases hfin with hrd | ⟨hrd, hlf⟩
      all_goals gi_wp2
      all_goals
        (refine wpIn_mono (Q := fun e a' W' => match e with | .normal => (a'.defers = [{ target := .collected (w.heap.size + 7), args := #[] }] ∧ a'.tmps.getD 2 undef = .pointer (some ⟨w.heap.size, 0, none⟩) ∧ a'.tmps.getD 3 undef = .pointer (some ⟨w.heap.size + 1, 0, none⟩) ∧ a'.tmps.getD 4 undef = .pointer (some ⟨w.heap.size + 2, 0, none⟩)) ∧ R13 w k W W' | _ => False) ?_ ?_
         · refine wpIn_region_any (by kernel_rfl) ?_
           refine wpAnyIn_take (i := 0) (v := .agg zmC) rfl rfl (by kernel_rfl) (by kernel_rfl) (by kernel_rfl) (fun _ _ _ h => h) ⟨Or.inl ⟨by rfl, ?_⟩, fun _ => rfl⟩ ?_
           · intro w'; go_simp; rfl
           refine wpAnyIn_ready (rs := [1, 3]) (by kernel_rfl) (by simp) ?_
           refine AllReadyIn.cons rfl (fun K hK => ?_) (AllReadyIn.cons rfl (fun K hK => ?_) AllReadyIn.nil)
           · go_simp
             refine hK _ _ ?_
             refine wpAnyIn_take (i := 2) (v := .int .i64 ((k : Int) + 1)) rfl rfl (by kernel_rfl) (by kernel_rfl) (by kernel_rfl) (fun _ _ _ h => h) ⟨Or.inl ⟨by rfl, ?_⟩, fun _ => rfl⟩ ?_
             · intro w'; go_simp; rw [IntKind.wrap_i64]; omega
             refine wpAnyIn_ready (rs := [3]) (by kernel_rfl) (by simp) ?_
             refine AllReadyIn.cons rfl (fun K hK => ?_) AllReadyIn.nil
             refine jR 29 (.tmp 2) (.tmp 41) rfl w.heap.size zmC rfl rfl 29 zmC (show W.drew.heap[w.heap.size]? = _ from b2) (by kernel_rfl) rfl zm1 ?_
             intro W3 hc3 hg3
             refine hK _ _ ?_
             have m3 := hc3.boxed (show Boxed W.drew (w.heap.size + 1) 3 (.int .i64 0) from hps.b3) (by omega)
             have m4 := hc3.boxed (show Boxed W.drew (w.heap.size + 2) 32 (.int .i64 0) from hps.b4) (by omega)
             have m6 := hc3.boxed h6d (by omega)
             have e3 := m3.cell; have f3 := m3.frozen
             have e4 : W3.cell? ⟨w.heap.size + 1 + 1, 0, none⟩ = some (.int .i64 0) := m4.cell
             have f4 : W3.frozen? ⟨w.heap.size + 1 + 1, 0, none⟩ = false := m4.frozen
             have e6 : W3.cell? ⟨w.heap.size + 1 + 1 + 1 + 1 + 1, 0, none⟩ = some (.int .i64 (k : Int)) := m6.cell
             refine wpAnyIn_ready (rs := [4]) (by kernel_rfl) (by simp) ?_
             refine AllReadyIn.cons rfl (fun K hK => ?_) AllReadyIn.nil
             go_simp
             refine hK _ _ ?_
             refine wpAnyIn_ready (rs := [5]) (by kernel_rfl) (by simp) ?_
             refine AllReadyIn.cons rfl (fun K hK => ?_) AllReadyIn.nil
             go_simp
             refine hK _ _ ?_
             refine wpAnyIn_done (by kernel_rfl) ?_ _
             exact ⟨⟨rfl, rfl, rfl, rfl⟩, qj hps hc3 hg3 m3 m4⟩
           · refine jR 29 (.tmp 2) (.tmp 41) rfl w.heap.size zmC rfl rfl 29 zmC (show W.drew.heap[w.heap.size]? = _ from b2) (by kernel_rfl) rfl zm1 ?_
             intro W3 hc3 hg3
             refine hK _ _ ?_
             have m3 := hc3.boxed (show Boxed W.drew (w.heap.size + 1) 3 (.int .i64 0) from hps.b3) (by omega)
             have m4 := hc3.boxed (show Boxed W.drew (w.heap.size + 2) 32 (.int .i64 0) from hps.b4) (by omega)
             have m6 := hc3.boxed h6d (by omega)
             have e3 := m3.cell; have f3 := m3.frozen
             have e4 : W3.cell? ⟨w.heap.size + 1 + 1, 0, none⟩ = some (.int .i64 0) := m4.cell
             have f4 : W3.frozen? ⟨w.heap.size + 1 + 1, 0, none⟩ = false := m4.frozen
             have e6 : W3.cell? ⟨w.heap.size + 1 + 1 + 1 + 1 + 1, 0, none⟩ = some (.int .i64 (k : Int)) := m6.cell
             refine wpAnyIn_ready (rs := [1]) (by kernel_rfl) (by simp) ?_
             refine AllReadyIn.cons rfl (fun K hK => ?_) AllReadyIn.nil
             go_simp
             refine hK _ _ ?_
             refine wpAnyIn_take (i := 2) (v := .int .i64 ((k : Int) + 1)) rfl rfl (by kernel_rfl) (by kernel_rfl) (by kernel_rfl) (fun _ _ _ h => h) ⟨Or.inl ⟨by rfl, ?_⟩, fun _ => rfl⟩ ?_
             · intro w'; go_simp; rw [IntKind.wrap_i64]; omega
             refine wpAnyIn_ready (rs := [4]) (by kernel_rfl) (by simp) ?_
             refine AllReadyIn.cons rfl (fun K hK => ?_) AllReadyIn.nil
             go_simp
             refine hK _ _ ?_
             refine wpAnyIn_ready (rs := [5]) (by kernel_rfl) (by simp) ?_
             refine AllReadyIn.cons rfl (fun K hK => ?_) AllReadyIn.nil
             go_simp
             refine hK _ _ ?_
             refine wpAnyIn_done (by kernel_rfl) ?_ _
             exact ⟨⟨rfl, rfl, rfl, rfl⟩, qj hps hc3 hg3 m3 m4⟩
         · intro e a' W' h
           cases e with
           | normal =>
             obtain ⟨⟨hdf, t2, t3, t4⟩, ⟨z1, z2, z3, z4, z5⟩, g2, g3, g4⟩ := h
             obtain ⟨tm, df⟩ := a'
             simp only at hdf
             subst hdf
             have hsz := hps.sz
             have hpm : PM s = (jU, (k : Int) + 1, 12) := by rw [hend]; unfold dv; rw [if_pos (by first | exact .inl hrd | exact .inr hlf)]
             have hbl : Below w.heap.size w W' := ⟨z2.trans hps.bl.os, z3.trans hps.bl.tape, z4.trans hps.bl.output, Nat.le_trans hps.bl.size z1, fun b hb => (z5 b (by omega) (by omega) (by omega) (by omega)).trans (hps.bl.block b hb)⟩
             have hD2 : W'.heap[w.heap.size + 7]? = some (.deferred (some [])) := (z5 _ (by omega) (by omega) (by omega) (by omega)).trans hD
             clear hend c6 c6d d0 d1 d2 d3 d4 d5 d6 d8 d9 hR b2
             gi_wp2
             refine lN t2 t3 t4 hbl g2 g3 g4 hD2 (by rw [hpm]) ?_
             rw [hpm]
             exact fun W' _ _ C L σ _ => ⟨⟨rfl, rfl⟩, ⟨rfl, bT _⟩, ⟨rfl, bT _⟩, ⟨rfl, rfl⟩, ⟨rfl, rfl⟩, ⟨rfl, bT _⟩, ⟨rfl, bT _⟩, trivial⟩
           | ret => exact h.elim
           | exit id => exact h.elim
           | goto t => exact h.elim
           | panic c => exact h.elim
           | outgrown => exact h.elim)
    · have hrd : (5 : Int) ≤ ((bG s k).rd : Int) := by omega
      have hlf : (bG s k).lf ≤ 0 := by omega
      have hri := kn (by omega : s.length ≤ 1048576) hi.2.2.2
      have htb := (hri.1.t4 (by omega)).1
      obtain ⟨a1, a2, a5, a6⟩ := hdat htb
      have hpm : PM s = (sn (bG s k), 0, 0) := by rw [hend]; unfold dv; rw [if_neg (by omega)]
      clear hend
      gi_wp2_with (refine gU rfl 29 (.tmp 2) (.tmp 47) rfl w.heap.size #[.string ⟨(bG s k).nm.toArray⟩, v1, v2, .int .i64 (bG s k).inp, .int .i64 (bG s k).st, v5, v6] rfl rfl 29 zmC b2 (by kernel_rfl) rfl (by simpa [Value.oneCell'] using ho) hps.b3 hps.b4 ?_; rintro W3 ⟨hc3, c3, f3, c4, f4⟩)
      obtain ⟨Wf, hWf, z1, z2, z3, z4, z5, z6, z7⟩ := uP (i := 0) (er := 0) hps hc3 hD
      rw [hWf]
      refine lN rfl rfl rfl z1 z2 z3 z4 z5 (by rw [hpm]) ?_
      rw [hpm]
      intro W' y1 y2 C L σ hav
      have hk : ∀ {t : Ty} {d : t.den} {cs : List Value}, Dat (XP w.heap.size) W t d cs → Dat (avd C L σ) W' t d cs := fun h => h.keep (Nat.le_trans z6 y1) (fun b hb hx => (y2 b (Nat.lt_of_lt_of_le hb z6) hx).trans (z7 b hb hx)) fun b _ hb => ⟨by have := hav b hb; omega, by have := hav b hb; omega⟩
      exact ⟨⟨rfl, rfl⟩, ⟨ho.1, hk a1⟩, ⟨ho.2.1, hk a2⟩, ⟨rfl, rfl⟩, ⟨rfl, rfl⟩, ⟨ho.2.2.1, hk a5⟩, ⟨ho.2.2.2, hk a6⟩, trivial⟩
  case hstop =>
    rintro c k W hf ⟨rfl, hx⟩ hD
    rw [hz0] at hD ⊢
    gi_wp2
    have hpm := tV hbig hx.ok hf hx.e0
    refine lN rfl rfl rfl hx.bl hx.b2 hx.b3 hx.b4 hD (by rw [hpm]) ?_
    rw [hpm]
    exact fun W' _ _ C L σ _ => ⟨⟨rfl, rfl⟩, ⟨rfl, bT _⟩, ⟨rfl, bT _⟩, ⟨rfl, rfl⟩, ⟨rfl, rfl⟩, ⟨rfl, bT _⟩, ⟨rfl, bT _⟩, trivial⟩
theorem cA (s : Bs) (hs : s.length ≤ 900000) : bI Tryd.prog 11 [.one (.str s)] (.tup [(PM s).1.av, .one (.int .i64 (PM s).2.1), .one (.int .i64 (PM s).2.2)]) := by
  refine ⟨⟨Tryd.f11, Tryd.func11, by kernel_rfl, by kernel_rfl⟩, fun C L σ w vs hP hI ha => ?_⟩
  match vs, ha with
  | [v], ⟨h1, _⟩ =>
  obtain rfl : v = .string ⟨s.toArray⟩ := h1.2
  refine (callsIn_wide.1 (pp 6 (Nat.le_refl _) s hs w)).mono ?_
  rintro e w' ⟨us, h2, h3, h4⟩
  have hx : ∀ b, avd C L σ b → b < w.heap.size := by
    rintro b (hx | ⟨o, ho⟩)
    · exact Nat.lt_of_lt_of_le (hI.xlt b hx) hI.size
    · exact eR hI ho
  exact ⟨_, h2, ⟨h3.size, h3.os, h3.tape, h3.output, h3.block⟩, _, rfl, ⟨us, rfl, h4 C L σ hx⟩, ⟨rfl, rfl⟩, ⟨rfl, rfl⟩, trivial⟩
end
open Go.Shelf in
def Tryd.lays171_ren : Go.Shelf.Ren := ⟨fun | 171 => 27 | 243 => 42 | 246 => 54 | 283 => 74 | 284 => 75 | 285 => 76 | 286 => 77 | 129 => 67 | 317 => 89 | 318 => 90 | 319 => 91 | 320 => 92 | 337 => 99 | 338 => 100 | n => n, fun | 3 => 3 | 9 => 9 | 2 => 2 | 4 => 4 | 171 => 114 | 0 => 0 | 53 => 109 | 37 => 64 | 5 => 5 | 173 => 116 | 212 => 131 | 51 => 107 | 20 => 20 | 213 => 132 | 46 => 88 | 232 => 147 | 233 => 148 | n => n, fun | 17 => 1 | 18 => 4 | 19 => 5 | n => n⟩
theorem Tryd.lays171 : Go.Proofs.Lays.n171 Tryd.prog Tryd.lays171_ren := {
  mixed := by kernel_rfl,
  f129 := Tryd.func67.trans (congrArg some (by kernel_rfl)),
  f171 := Tryd.func27.trans (congrArg some (by kernel_rfl)),
  f243 := Tryd.func42.trans (congrArg some (by kernel_rfl)),
  f246 := Tryd.func54.trans (congrArg some (by kernel_rfl)),
  f283 := Tryd.func74.trans (congrArg some (by kernel_rfl)),
  f284 := Tryd.func75.trans (congrArg some (by kernel_rfl)),
  f285 := Tryd.func76.trans (congrArg some (by kernel_rfl)),
  f286 := Tryd.func77.trans (congrArg some (by kernel_rfl)),
  f317 := Tryd.func89.trans (congrArg some (by kernel_rfl)),
  f318 := Tryd.func90.trans (congrArg some (by kernel_rfl)),
  f319 := Tryd.func91.trans (congrArg some (by kernel_rfl)),
  f320 := Tryd.func92.trans (congrArg some (by kernel_rfl)),
  f337 := Tryd.func99.trans (congrArg some (by kernel_rfl)),
  f338 := Tryd.func100.trans (congrArg some (by kernel_rfl)),
  t0 := Tryd.underlying0,
  a0 := Tryd.isAgg0,
  z0 := Tryd.sizeOf0,
  v0 := Tryd.zeroValue0,
  t2 := Tryd.underlying2,
  a2 := Tryd.isAgg2,
  z2 := Tryd.sizeOf2,
  v2 := Tryd.zeroValue2,
  t3 := Tryd.underlying3,
  a3 := Tryd.isAgg3,
  z3 := Tryd.sizeOf3,
  v3 := Tryd.zeroValue3,
  t4 := Tryd.underlying4,
  a4 := Tryd.isAgg4,
  z4 := Tryd.sizeOf4,
  v4 := Tryd.zeroValue4,
  t5 := Tryd.underlying5,
  a5 := Tryd.isAgg5,
  z5 := Tryd.sizeOf5,
  v5 := Tryd.zeroValue5,
  t9 := Tryd.underlying9,
  a9 := Tryd.isAgg9,
  z9 := Tryd.sizeOf9,
  v9 := Tryd.zeroValue9,
  t20 := Tryd.underlying20,
  a20 := Tryd.isAgg20,
  z20 := Tryd.sizeOf20,
  v20 := Tryd.zeroValue20,
  t37 := Tryd.underlying64,
  a37 := Tryd.isAgg64,
  z37 := Tryd.sizeOf64,
  v37 := Tryd.zeroValue64,
  t46 := Tryd.underlying88,
  a46 := Tryd.isAgg88,
  z46 := Tryd.sizeOf88,
  v46 := Tryd.zeroValue88,
  t51 := Tryd.underlying107,
  a51 := Tryd.isAgg107,
  z51 := Tryd.sizeOf107,
  v51 := Tryd.zeroValue107,
  t53 := Tryd.underlying109,
  a53 := Tryd.isAgg109,
  z53 := Tryd.sizeOf109,
  v53 := Tryd.zeroValue109,
  t171 := Tryd.underlying114,
  a171 := Tryd.isAgg114,
  z171 := Tryd.sizeOf114,
  v171 := Tryd.zeroValue114,
  t173 := Tryd.underlying116,
  a173 := Tryd.isAgg116,
  z173 := Tryd.sizeOf116,
  v173 := Tryd.zeroValue116,
  t212 := Tryd.underlying131,
  a212 := Tryd.isAgg131,
  z212 := Tryd.sizeOf131,
  v212 := Tryd.zeroValue131,
  t213 := Tryd.underlying132,
  a213 := Tryd.isAgg132,
  z213 := Tryd.sizeOf132,
  t232 := Tryd.underlying147,
  a232 := Tryd.isAgg147,
  z232 := Tryd.sizeOf147,
  v232 := Tryd.zeroValue147,
  t233 := Tryd.underlying148,
  a233 := Tryd.isAgg148,
  z233 := Tryd.sizeOf148,
  v233 := Tryd.zeroValue148,
  g17 := by kernel_rfl,
  g18 := by kernel_rfl,
  g19 := by kernel_rfl }
theorem tq (n : Int) (h0 : 0 ≤ n) (h1 : n < 100) : bI Tryd.prog 27 [.one (.int .i64 n)] (.one (.str (Lib.decDigits n.toNat))) := by
  refine ⟨⟨Tryd.f27, Tryd.func27, by kernel_rfl, by kernel_rfl⟩, fun C L σ w vs hP hi ha => ?_⟩
  cases vs with
  | nil => exact ha.elim
  | cons v vs =>
  cases vs with
  | cons _ _ => exact ha.2.elim
  | nil =>
  have e1 : v = .int .i64 n := ha.1.2
  subst e1
  have h := Any.strconv_Itoa_small Tryd.lays171 n.toNat (by omega) w
  have e : ((n.toNat : Nat) : Int) = n := Int.toNat_of_nonneg h0
  rw [e] at h
  refine Calls.mono h fun e w' hh => ?_
  obtain ⟨e1, e2⟩ := hh
  subst e2
  exact ⟨_, e1, MORE.refl _, rfl, rfl⟩
theorem kY (n : Int) (h0 : 0 ≤ n) (h1 : n < 100) : bI Tryd.prog 16 [.one (.int .i64 n)] (.one (.str (qn n.toNat))) := by
 have hl := oM n.toNat (by omega)
 refine aP Tryd.func16 rfl (by kernel_rfl) (Nat.le_of_ble_eq_true rfl) rfl fun C hP hN hB => ?_
 replace hN : C.N = 6 := hN
 simp only [aW, E]
 refine ab fun _ k1 => ?_
 refine af hP hN rfl ?_
 (refine aa rfl fun _ k0 => ?_; simp only [zO, zT, acs, reduceCtorEq, M, E, O, Z, Y, V]; (repeat refine an ?_); (try refine .inl ?_); apply k0; clear k0; simp only [zP, E])
 refine ae ?_
 apply k1; clear k1; refine kp [0, 2] ?_
 refine ab fun _ k2 => ?_
 refine af hP hN rfl ?_
 (refine aa rfl fun _ k0 => ?_; simp only [zO, zT, acs, reduceCtorEq, M, E, O, Z, Y, V, ah, aq]; (repeat refine an ?_); (try refine .inl ?_); apply k0; clear k0; simp only [zP, E])
 refine aa rfl fun _ k0 => ?_
 refine ax (h := aj (tq n h0 h1)) rfl rfl (by first | exact rfl | (simp only [ev, zP, M, E]; exact rfl)) (by simp only [zV, acs, reduceCtorEq, M, E, O, Z, Y, V, ah, aq]) ?_
 apply k0; clear k0; simp only [zP, E]
 iterate 2 (refine aa rfl fun _ k0 => ?_; simp only [zO, zT, acs, reduceCtorEq, M, E, O, Z, Y, V, ah, aq]; (repeat refine an ?_); (try refine .inl ?_); apply k0; clear k0; simp only [zP, E])
 refine ae ?_
 apply k2; clear k2; refine kp [0, 2] ?_
 refine ay ?_
 refine ⟨nr, _, rfl, ?_⟩; simp only [zF, zP, M, E]
 refine VLE.of_eq ?_
 rfl
theorem tZ (xs : List Int) (h0 : 0 < xs.length) : bI Tryd.prog 22 [.one (.list (.int .i64) xs)] (.one (.int .i64 (mxL xs))) := by
 refine aP Tryd.func22 rfl (by kernel_rfl) (Nat.le_of_ble_eq_true rfl) rfl fun C hP hN hB => ?_
 replace hN : C.N = 25 := hN
 simp only [aW, E]
 refine gl 0 rfl fun hf0 => ?_; simp only [lkp, if_true, if_false, reduceCtorEq, M, eq_self, Nat.one_ne_zero, Nat.zero_ne_one, kT, jN, jQ, Fit, and_true, implies_true, true_and] at hf0
 refine ab fun _ k1 => ?_
 refine af hP hN rfl ?_
 (refine aa rfl fun _ k0 => ?_; simp only [zO, zT, acs, reduceCtorEq, M, E, O, Z, Y, V]; (repeat refine an ?_); (try refine .inl ?_); apply k0; clear k0; simp only [zP, E])
 refine ae ?_
 apply k1; clear k1; refine kp [0, 2] ?_
 refine ab fun _ k2 => ?_
 refine ab fun _ k3 => ?_
 refine af hP hN rfl ?_
 iterate 3 (refine aa rfl fun _ k0 => ?_; simp only [zO, zT, acs, reduceCtorEq, M, E, O, Z, Y, V]; (repeat refine an ?_); (try refine .inl ?_); apply k0; clear k0; simp only [zP, E])
 refine ae ?_
 apply k3; clear k3; refine kp [0, 2, 7] ?_
 refine cd (fun hc4 => ?_) (fun hc4 => ?_)
 · exfalso; (try simp only [zB, reduceCtorEq] at hc4); all_goals (first | (cases hc4; done) | omega | (simp at hc4; done) | (simp_all; done))
 (try simp only [zB, reduceCtorEq] at hc4)
 refine az ?_
 apply k2; clear k2; refine kp [0, 2, 7] ?_
 refine ab fun _ k5 => ?_
 refine af hP hN rfl ?_
 iterate 4 (refine aa rfl fun _ k0 => ?_; simp only [zO, zT, acs, reduceCtorEq, M, E, O, Z, Y, V]; (repeat refine an ?_); (try refine .inl ?_); apply k0; clear k0; simp only [zP, E])
 refine ae ?_
 apply k5; clear k5; refine kp [0, 2, 3, 7] ?_
 refine ab fun _ k6 => ?_
 refine ab fun _ k7 => ?_
 refine af hP hN rfl ?_
 (refine aa rfl fun _ k0 => ?_; simp only [zO, zT, acs, reduceCtorEq, M, E, O, Z, Y, V]; (repeat refine an ?_); (try refine .inl ?_); apply k0; clear k0; simp only [zP, E])
 refine ae ?_
 apply k7; clear k7; refine kp [0, 2, 3, 4, 7] ?_
 refine aG ?_
 refine bB (fun n8 s8 => ∃ (k : Nat), (1 ≤ k) ∧ (k ≤ xs.length) ∧ n8 = xs.length - k ∧ s8 = { env := [(0, .one (.list (.int .i64) xs)), (3, .one (.int .i64 ((xs.take k).foldl max (xs.getD 0 0)))), (4, .one (.int .i64 (k : Int)))], L := [] }) ?_ ?_
 ·refine ⟨_, _, aK [0, 3, 4], 1, Nat.le_refl _, h0, rfl, ?_⟩
  rw [tA h0]; rfl
 rintro n8 s8 ⟨k, hk1, hk, rfl, rfl⟩
 refine ab fun _ k9 => ?_
 refine ab fun _ k10 => ?_
 refine af hP hN rfl ?_
 iterate 4 (refine aa rfl fun _ k0 => ?_; simp only [zO, zT, acs, reduceCtorEq, M, E, O, Z, Y, V]; (repeat refine an ?_); (try refine .inl ?_); apply k0; clear k0; simp only [zP, E])
 refine ae ?_
 apply k10; clear k10; refine kp [0, 3, 4, 15] ?_
 refine cd (fun hc11 => ?_) (fun hc11 => ?_)
 ·(try simp only [zB, reduceCtorEq] at hc11)
  refine az ?_
  apply k9; clear k9; refine kp [0, 3, 4, 15] ?_
  refine ab fun _ k12 => ?_
  refine aG ?_
  refine af hP hN rfl ?_
  iterate 7 (refine aa rfl fun _ k0 => ?_; simp only [zO, zT, acs, reduceCtorEq, M, E, O, Z, Y, V]; (repeat refine an ?_); (try refine .inl ?_); apply k0; clear k0; simp only [zP, E])
  refine ae ?_
  apply k12; clear k12; refine kp [0, 3, 4, 15] ?_
  refine af hP hN rfl ?_
  iterate 3 (refine aa rfl fun _ k0 => ?_; simp only [zO, zT, acs, reduceCtorEq, M, E, O, Z, Y, V]; (repeat refine an ?_); (try refine .inl ?_); apply k0; clear k0; simp only [zP, E])
  refine ae ?_
  refine ⟨_, _, ?_, aK [0, 3, 4], k + 1, by omega, by omega, rfl, ?_⟩
  · omega
  · rw [nc (by omega), List.foldl_append]; rfl
 (try simp only [zB, reduceCtorEq] at hc11)
 refine bz ?_
 apply k6; clear k6; refine kp [0, 3, 4, 15] ?_
 refine ab fun _ k13 => ?_
 refine af hP hN rfl ?_
 iterate 2 (refine aa rfl fun _ k0 => ?_; simp only [zO, zT, acs, reduceCtorEq, M, E, O, Z, Y, V]; (repeat refine an ?_); (try refine .inl ?_); apply k0; clear k0; simp only [zP, E])
 refine ae ?_
 apply k13; clear k13; refine kp [0, 2, 3, 4, 15] ?_
 refine ay ?_
 refine ⟨nr, _, rfl, ?_⟩; simp only [zF, zP, M, E]
 refine VLE.of_eq ?_
 refine congrArg (fun n => AV.one (AC.int IntKind.i64 n)) ?_
 rw [show k = xs.length by omega, aD]; rfl
open Go.Shelf in
def Tryd.laysNm220_ren : Go.Shelf.Ren := ⟨fun | 20 => 33 | n => n, fun | 22 => 44 | 3 => 3 | 4 => 4 | 0 => 0 | n => n, fun | n => n⟩
theorem Tryd.laysNm220 : Go.Proofs.Lays2.n20 Tryd.prog Tryd.laysNm220_ren := {
  mixed := by kernel_rfl,
  f20 := Tryd.func33.trans (congrArg some (by kernel_rfl)),
  t0 := Tryd.underlying0,
  a0 := Tryd.isAgg0,
  z0 := Tryd.sizeOf0,
  v0 := Tryd.zeroValue0,
  t3 := Tryd.underlying3,
  a3 := Tryd.isAgg3,
  z3 := Tryd.sizeOf3,
  v3 := Tryd.zeroValue3,
  t4 := Tryd.underlying4,
  a4 := Tryd.isAgg4,
  z4 := Tryd.sizeOf4,
  v4 := Tryd.zeroValue4,
  t22 := Tryd.underlying44,
  a22 := Tryd.isAgg44,
  z22 := Tryd.sizeOf44,
  v22 := Tryd.zeroValue44,
  i3 := by kernel_rfl }
theorem oE : mc Tryd.prog 33 := ⟨⟨Tryd.f33, Tryd.func33, by kernel_rfl, by kernel_rfl⟩, fun blk off cap zs w hH hb hz => Any.slices_Compact_int Tryd.laysNm220 blk off cap zs w hH hb hz⟩
open Go.Shelf in
def Tryd.lays189_ren : Go.Shelf.Ren := ⟨fun | 189 => 32 | 125 => 47 | 257 => 46 | 128 => 66 | 129 => 67 | 294 => 57 | 295 => 58 | 296 => 59 | 297 => 60 | 298 => 61 | 299 => 62 | 216 => 63 | 300 => 64 | 301 => 65 | 328 => 78 | 329 => 79 | 330 => 80 | 331 => 81 | 332 => 82 | 215 => 83 | 343 => 93 | n => n, fun | 28 => 44 | 3 => 3 | 46 => 88 | 0 => 0 | 51 => 107 | 53 => 109 | 4 => 4 | 183 => 100 | 182 => 99 | 131 => 91 | 5 => 5 | 9 => 9 | 218 => 118 | 222 => 122 | 228 => 133 | 229 => 134 | n => n, fun | n => n⟩
theorem Tryd.lays189 : Go.Proofs.Lays.n189 Tryd.prog Tryd.lays189_ren := {
  mixed := by kernel_rfl,
  f125 := Tryd.func47.trans (congrArg some (by kernel_rfl)),
  f128 := Tryd.func66.trans (congrArg some (by kernel_rfl)),
  f129 := Tryd.func67.trans (congrArg some (by kernel_rfl)),
  f189 := Tryd.func32.trans (congrArg some (by kernel_rfl)),
  f215 := Tryd.func83.trans (congrArg some (by kernel_rfl)),
  f216 := Tryd.func63.trans (congrArg some (by kernel_rfl)),
  f257 := Tryd.func46.trans (congrArg some (by kernel_rfl)),
  f294 := Tryd.func57.trans (congrArg some (by kernel_rfl)),
  f295 := Tryd.func58.trans (congrArg some (by kernel_rfl)),
  f296 := Tryd.func59.trans (congrArg some (by kernel_rfl)),
  f297 := Tryd.func60.trans (congrArg some (by kernel_rfl)),
  f298 := Tryd.func61.trans (congrArg some (by kernel_rfl)),
  f299 := Tryd.func62.trans (congrArg some (by kernel_rfl)),
  f300 := Tryd.func64.trans (congrArg some (by kernel_rfl)),
  f301 := Tryd.func65.trans (congrArg some (by kernel_rfl)),
  f328 := Tryd.func78.trans (congrArg some (by kernel_rfl)),
  f329 := Tryd.func79.trans (congrArg some (by kernel_rfl)),
  f330 := Tryd.func80.trans (congrArg some (by kernel_rfl)),
  f331 := Tryd.func81.trans (congrArg some (by kernel_rfl)),
  f332 := Tryd.func82.trans (congrArg some (by kernel_rfl)),
  f343 := Tryd.func93.trans (congrArg some (by kernel_rfl)),
  t0 := Tryd.underlying0,
  a0 := Tryd.isAgg0,
  z0 := Tryd.sizeOf0,
  v0 := Tryd.zeroValue0,
  t3 := Tryd.underlying3,
  a3 := Tryd.isAgg3,
  z3 := Tryd.sizeOf3,
  v3 := Tryd.zeroValue3,
  t4 := Tryd.underlying4,
  a4 := Tryd.isAgg4,
  z4 := Tryd.sizeOf4,
  v4 := Tryd.zeroValue4,
  t5 := Tryd.underlying5,
  a5 := Tryd.isAgg5,
  z5 := Tryd.sizeOf5,
  v5 := Tryd.zeroValue5,
  t9 := Tryd.underlying9,
  a9 := Tryd.isAgg9,
  z9 := Tryd.sizeOf9,
  v9 := Tryd.zeroValue9,
  t28 := Tryd.underlying44,
  a28 := Tryd.isAgg44,
  z28 := Tryd.sizeOf44,
  v28 := Tryd.zeroValue44,
  t46 := Tryd.underlying88,
  a46 := Tryd.isAgg88,
  z46 := Tryd.sizeOf88,
  v46 := Tryd.zeroValue88,
  t51 := Tryd.underlying107,
  a51 := Tryd.isAgg107,
  z51 := Tryd.sizeOf107,
  v51 := Tryd.zeroValue107,
  t53 := Tryd.underlying109,
  a53 := Tryd.isAgg109,
  z53 := Tryd.sizeOf109,
  v53 := Tryd.zeroValue109,
  t131 := Tryd.underlying91,
  a131 := Tryd.isAgg91,
  z131 := Tryd.sizeOf91,
  v131 := Tryd.zeroValue91,
  t182 := Tryd.underlying99,
  a182 := Tryd.isAgg99,
  z182 := Tryd.sizeOf99,
  v182 := Tryd.zeroValue99,
  t183 := Tryd.underlying100,
  a183 := Tryd.isAgg100,
  z183 := Tryd.sizeOf100,
  v183 := Tryd.zeroValue100,
  t218 := Tryd.underlying118,
  a218 := Tryd.isAgg118,
  z218 := Tryd.sizeOf118,
  v218 := Tryd.zeroValue118,
  t222 := Tryd.underlying122,
  a222 := Tryd.isAgg122,
  z222 := Tryd.sizeOf122,
  v222 := Tryd.zeroValue122,
  t228 := Tryd.underlying133,
  a228 := Tryd.isAgg133,
  z228 := Tryd.sizeOf133,
  v228 := Tryd.zeroValue133,
  t229 := Tryd.underlying134,
  a229 := Tryd.isAgg134,
  z229 := Tryd.sizeOf134,
  v229 := Tryd.zeroValue134 }
theorem sL : sW Tryd.prog 32 := ⟨⟨Tryd.f32, Tryd.func32, by kernel_rfl, by kernel_rfl⟩, fun blk off cap zs w hH hb hz => Any.slices_Sort_int Tryd.lays189 blk off cap zs w hH hb hz⟩
theorem oB (m : Mly) : bI Tryd.prog 20 [m.av] (.one (.int .i64 (bv m))) := by
 refine aP Tryd.func20 rfl (by kernel_rfl) (Nat.le_of_ble_eq_true rfl) rfl fun C hP hN hB => ?_
 replace hN : C.N = 104 := hN
 simp only [aW, E]
 refine ab fun _ k1 => ?_
 refine af hP hN rfl ?_
 iterate 2 (refine aa rfl fun _ k0 => ?_; simp only [zO, zT, acs, reduceCtorEq, M, E, O, Z, Y, V, Mly.av]; (repeat refine an ?_); (try refine .inl ?_); apply k0; clear k0; simp only [zP, E])
 refine ae ?_
 apply k1; clear k1; refine kp [0, 1, 2] ?_
 refine ab fun _ k2 => ?_
 refine af hP hN rfl ?_
 iterate 4 (refine aa rfl fun _ k0 => ?_; simp only [zO, zT, acs, reduceCtorEq, M, E, O, Z, Y, V, Mly.av]; (repeat refine an ?_); (try refine .inl ?_); apply k0; clear k0; simp only [zP, E])
 refine ae ?_
 apply k2; clear k2; refine kp [0, 1, 2, 3] ?_
 refine ab fun _ k3 => ?_
 refine aG ?_
 refine ab fun _ k4 => ?_
 refine af hP hN rfl ?_
 iterate 4 (refine aa rfl fun _ k0 => ?_; simp only [zO, zT, acs, reduceCtorEq, M, E, O, Z, Y, V, Mly.av]; (repeat refine an ?_); (try refine .inl ?_); apply k0; clear k0; simp only [zP, E])
 refine' ar (want := false) 3 rfl (m := 15) (by simp only [zP, M, E]; exact rfl) (by kernel_rfl) rfl rfl rfl rfl rfl (fun hg5 => ?a5) ?b5 ?c5
 case a5 =>
  have hq5 := hg5; (try simp only [zB, reduceCtorEq] at hg5); simp only [zE]
  iterate 3 (refine aJ rfl fun _ k0 => ?_; simp only [zO, zT, acs, reduceCtorEq, M, E, O, Z, Y, V, Mly.av]; (repeat refine an ?_); (try refine .inl ?_); apply k0; clear k0; simp only [zP, E])
  (refine aa rfl fun _ k0 => ?_; simp only [zO, zT, acs, reduceCtorEq, M, E, O, Z, Y, V, Mly.av]; (repeat refine an ?_); (try refine .inl ?_); apply k0; clear k0; simp only [zP, E])
  refine ae ?_
  refine ⟨by simp only [zP, M, E]; exact rfl, rfl, ?_, rfl⟩; (repeat refine au rfl ?_); exact aH (by exact rfl) hq5
 case b5 => exact aU
 simp only [aA, aw]
 (refine aa rfl fun _ k0 => ?_; simp only [zO, zT, acs, reduceCtorEq, M, E, O, Z, Y, V, Mly.av]; (repeat refine an ?_); (try refine .inl ?_); apply k0; clear k0; simp only [zP, E])
 refine ae ?_
 apply k4; clear k4; refine kp [0, 1, 2, 3, 11] ?_
 refine cd (fun hc6 => ?_) (fun hc6 => ?_)
 ·(try simp only [zB, reduceCtorEq] at hc6)
  refine ab fun _ k7 => ?_
  refine af hP hN rfl ?_
  (refine aa rfl fun _ k0 => ?_; simp only [zO, zT, acs, reduceCtorEq, M, E, O, Z, Y, V, Mly.av]; (repeat refine an ?_); (try refine .inl ?_); apply k0; clear k0; simp only [zP, E])
  refine ae ?_
  apply k7; clear k7; refine kp [0, 1, 2, 3, 11] ?_
  refine ay ?_
  refine ⟨nr, _, rfl, ?_⟩; simp only [zF, zP, M, E, Mly.av]
  refine VLE.of_eq ?_
  refine congrArg (fun n => AV.one (AC.int IntKind.i64 n)) ?_
  symm
  unfold bv
  first
  | (rw [if_pos (by omega)]; done)
  | (rw [if_neg (by omega), if_pos (by omega)]; done)
  | (rw [if_neg (by omega), if_neg (by omega), if_pos (by omega)]; done)
  | (rw [if_neg (by omega), if_neg (by omega), if_neg (by omega), if_pos (by omega)]; done)
  | (rw [if_neg (by omega), if_neg (by omega), if_neg (by omega), if_neg (by omega), if_pos (by omega)]; done)
  | (rw [if_neg (by omega), if_neg (by omega), if_neg (by omega), if_neg (by omega), if_neg (by omega)]
     first
     | exact (bh hrows (by omega) (by rw [bD hc32.1 hc32.2 (j := j) (by omega) (by unfold bb; omega)]; decide)).trans (bD hc32.1 hc32.2 (by omega) (by unfold bb; omega))
     | exact (bh hrows (by omega) (by rw [bE hc32]; decide)).trans (bE hc32)
     | exact bQ fun i hi => hrows i (by omega))
 (try simp only [zB, reduceCtorEq] at hc6)
 refine ab fun _ k8 => ?_
 refine af hP hN rfl ?_
 iterate 3 (refine aa rfl fun _ k0 => ?_; simp only [zO, zT, acs, reduceCtorEq, M, E, O, Z, Y, V, Mly.av]; (repeat refine an ?_); (try refine .inl ?_); apply k0; clear k0; simp only [zP, E])
 refine ae ?_
 apply k8; clear k8; refine kp [0, 1, 2, 3, 11, 20] ?_
 refine cd (fun hc9 => ?_) (fun hc9 => ?_)
 ·(try simp only [zB, reduceCtorEq] at hc9)
  refine ab fun _ k10 => ?_
  refine af hP hN rfl ?_
  (refine aa rfl fun _ k0 => ?_; simp only [zO, zT, acs, reduceCtorEq, M, E, O, Z, Y, V, Mly.av]; (repeat refine an ?_); (try refine .inl ?_); apply k0; clear k0; simp only [zP, E])
  refine ae ?_
  apply k10; clear k10; refine kp [0, 1, 2, 3, 11, 20] ?_
  refine ay ?_
  refine ⟨nr, _, rfl, ?_⟩; simp only [zF, zP, M, E, Mly.av]
  refine VLE.of_eq ?_
  refine congrArg (fun n => AV.one (AC.int IntKind.i64 n)) ?_
  symm
  unfold bv
  first
  | (rw [if_pos (by omega)]; done)
  | (rw [if_neg (by omega), if_pos (by omega)]; done)
  | (rw [if_neg (by omega), if_neg (by omega), if_pos (by omega)]; done)
  | (rw [if_neg (by omega), if_neg (by omega), if_neg (by omega), if_pos (by omega)]; done)
  | (rw [if_neg (by omega), if_neg (by omega), if_neg (by omega), if_neg (by omega), if_pos (by omega)]; done)
  | (rw [if_neg (by omega), if_neg (by omega), if_neg (by omega), if_neg (by omega), if_neg (by omega)]
     first
     | exact (bh hrows (by omega) (by rw [bD hc32.1 hc32.2 (j := j) (by omega) (by unfold bb; omega)]; decide)).trans (bD hc32.1 hc32.2 (by omega) (by unfold bb; omega))
     | exact (bh hrows (by omega) (by rw [bE hc32]; decide)).trans (bE hc32)
     | exact bQ fun i hi => hrows i (by omega))
 (try simp only [zB, reduceCtorEq] at hc9)
 refine ab fun _ k11 => ?_
 refine af hP hN rfl ?_
 iterate 3 (refine aa rfl fun _ k0 => ?_; simp only [zO, zT, acs, reduceCtorEq, M, E, O, Z, Y, V, Mly.av]; (repeat refine an ?_); (try refine .inl ?_); apply k0; clear k0; simp only [zP, E])
 refine ae ?_
 apply k11; clear k11; refine kp [0, 1, 2, 3, 11, 20, 23] ?_
 refine cd (fun hc12 => ?_) (fun hc12 => ?_)
 ·(try simp only [zB, reduceCtorEq] at hc12)
  refine ab fun _ k13 => ?_
  refine af hP hN rfl ?_
  (refine aa rfl fun _ k0 => ?_; simp only [zO, zT, acs, reduceCtorEq, M, E, O, Z, Y, V, Mly.av]; (repeat refine an ?_); (try refine .inl ?_); apply k0; clear k0; simp only [zP, E])
  refine ae ?_
  apply k13; clear k13; refine kp [0, 1, 2, 3, 11, 20, 23] ?_
  refine ay ?_
  refine ⟨nr, _, rfl, ?_⟩; simp only [zF, zP, M, E, Mly.av]
  refine VLE.of_eq ?_
  refine congrArg (fun n => AV.one (AC.int IntKind.i64 n)) ?_
  symm
  unfold bv
  first
  | (rw [if_pos (by omega)]; done)
  | (rw [if_neg (by omega), if_pos (by omega)]; done)
  | (rw [if_neg (by omega), if_neg (by omega), if_pos (by omega)]; done)
  | (rw [if_neg (by omega), if_neg (by omega), if_neg (by omega), if_pos (by omega)]; done)
  | (rw [if_neg (by omega), if_neg (by omega), if_neg (by omega), if_neg (by omega), if_pos (by omega)]; done)
  | (rw [if_neg (by omega), if_neg (by omega), if_neg (by omega), if_neg (by omega), if_neg (by omega)]
     first
     | exact (bh hrows (by omega) (by rw [bD hc32.1 hc32.2 (j := j) (by omega) (by unfold bb; omega)]; decide)).trans (bD hc32.1 hc32.2 (by omega) (by unfold bb; omega))
     | exact (bh hrows (by omega) (by rw [bE hc32]; decide)).trans (bE hc32)
     | exact bQ fun i hi => hrows i (by omega))
 (try simp only [zB, reduceCtorEq] at hc12)
 refine ab fun _ k14 => ?_
 refine af hP hN rfl ?_
 iterate 4 (refine aa rfl fun _ k0 => ?_; simp only [zO, zT, acs, reduceCtorEq, M, E, O, Z, Y, V, Mly.av]; (repeat refine an ?_); (try refine .inl ?_); apply k0; clear k0; simp only [zP, E])
 refine' ar (want := false) 4 rfl (m := 30) (by simp only [zP, M, E]; exact rfl) (by kernel_rfl) rfl rfl rfl rfl rfl (fun hg15 => ?a15) ?b15 ?c15
 case a15 =>
  have hq15 := hg15; (try simp only [zB, reduceCtorEq] at hg15); simp only [zE]
  iterate 4 (refine aJ rfl fun _ k0 => ?_; simp only [zO, zT, acs, reduceCtorEq, M, E, O, Z, Y, V, Mly.av]; (repeat refine an ?_); (try refine .inl ?_); apply k0; clear k0; simp only [zP, E])
  (refine aa rfl fun _ k0 => ?_; simp only [zO, zT, acs, reduceCtorEq, M, E, O, Z, Y, V, Mly.av]; (repeat refine an ?_); (try refine .inl ?_); apply k0; clear k0; simp only [zP, E])
  refine ae ?_
  refine ⟨by simp only [zP, M, E]; exact rfl, rfl, ?_, rfl⟩; (repeat refine au rfl ?_); exact aH (by exact rfl) hq15
 case b15 => exact aU
 simp only [aA, aw]
 (refine aa rfl fun _ k0 => ?_; simp only [zO, zT, acs, reduceCtorEq, M, E, O, Z, Y, V, Mly.av]; (repeat refine an ?_); (try refine .inl ?_); apply k0; clear k0; simp only [zP, E])
 refine ae ?_
 apply k14; clear k14; refine kp [0, 1, 2, 3, 11, 20, 23, 26] ?_
 refine cd (fun hc16 => ?_) (fun hc16 => ?_)
 ·(try simp only [zB, reduceCtorEq] at hc16)
  refine ab fun _ k17 => ?_
  refine af hP hN rfl ?_
  (refine aa rfl fun _ k0 => ?_; simp only [zO, zT, acs, reduceCtorEq, M, E, O, Z, Y, V, Mly.av]; (repeat refine an ?_); (try refine .inl ?_); apply k0; clear k0; simp only [zP, E])
  refine ae ?_
  apply k17; clear k17; refine kp [0, 1, 2, 3, 11, 20, 23, 26] ?_
  refine ay ?_
  refine ⟨nr, _, rfl, ?_⟩; simp only [zF, zP, M, E, Mly.av]
  refine VLE.of_eq ?_
  refine congrArg (fun n => AV.one (AC.int IntKind.i64 n)) ?_
  symm
  unfold bv
  first
  | (rw [if_pos (by omega)]; done)
  | (rw [if_neg (by omega), if_pos (by omega)]; done)
  | (rw [if_neg (by omega), if_neg (by omega), if_pos (by omega)]; done)
  | (rw [if_neg (by omega), if_neg (by omega), if_neg (by omega), if_pos (by omega)]; done)
  | (rw [if_neg (by omega), if_neg (by omega), if_neg (by omega), if_neg (by omega), if_pos (by omega)]; done)
  | (rw [if_neg (by omega), if_neg (by omega), if_neg (by omega), if_neg (by omega), if_neg (by omega)]
     first
     | exact (bh hrows (by omega) (by rw [bD hc32.1 hc32.2 (j := j) (by omega) (by unfold bb; omega)]; decide)).trans (bD hc32.1 hc32.2 (by omega) (by unfold bb; omega))
     | exact (bh hrows (by omega) (by rw [bE hc32]; decide)).trans (bE hc32)
     | exact bQ fun i hi => hrows i (by omega))
 (try simp only [zB, reduceCtorEq] at hc16)
 refine ab fun _ k18 => ?_
 refine af hP hN rfl ?_
 iterate 6 (refine aa rfl fun _ k0 => ?_; simp only [zO, zT, acs, reduceCtorEq, M, E, O, Z, Y, V, Mly.av]; (repeat refine an ?_); (try refine .inl ?_); apply k0; clear k0; simp only [zP, E])
 refine ae ?_
 apply k18; clear k18; refine kp [0, 1, 2, 3, 11, 20, 23, 26, 36] ?_
 refine cd (fun hc19 => ?_) (fun hc19 => ?_)
 ·(try simp only [zB, reduceCtorEq] at hc19)
  refine ab fun _ k20 => ?_
  refine af hP hN rfl ?_
  (refine aa rfl fun _ k0 => ?_; simp only [zO, zT, acs, reduceCtorEq, M, E, O, Z, Y, V, Mly.av]; (repeat refine an ?_); (try refine .inl ?_); apply k0; clear k0; simp only [zP, E])
  refine ae ?_
  apply k20; clear k20; refine kp [0, 1, 2, 3, 11, 20, 23, 26, 36] ?_
  refine ay ?_
  refine ⟨nr, _, rfl, ?_⟩; simp only [zF, zP, M, E, Mly.av]
  refine VLE.of_eq ?_
  refine congrArg (fun n => AV.one (AC.int IntKind.i64 n)) ?_
  symm
  unfold bv
  first
  | (rw [if_pos (by omega)]; done)
  | (rw [if_neg (by omega), if_pos (by omega)]; done)
  | (rw [if_neg (by omega), if_neg (by omega), if_pos (by omega)]; done)
  | (rw [if_neg (by omega), if_neg (by omega), if_neg (by omega), if_pos (by omega)]; done)
  | (rw [if_neg (by omega), if_neg (by omega), if_neg (by omega), if_neg (by omega), if_pos (by omega)]; done)
  | (rw [if_neg (by omega), if_neg (by omega), if_neg (by omega), if_neg (by omega), if_neg (by omega)]
     first
     | exact (bh hrows (by omega) (by rw [bD hc32.1 hc32.2 (j := j) (by omega) (by unfold bb; omega)]; decide)).trans (bD hc32.1 hc32.2 (by omega) (by unfold bb; omega))
     | exact (bh hrows (by omega) (by rw [bE hc32]; decide)).trans (bE hc32)
     | exact bQ fun i hi => hrows i (by omega))
 (try simp only [zB, reduceCtorEq] at hc19)
 refine az ?_
 apply k3; clear k3; refine kp [0, 1, 2, 3, 11, 20, 23, 26, 36] ?_
 refine ab fun _ k21 => ?_
 refine ab fun _ k22 => ?_
 refine af hP hN rfl ?_
 iterate 2 (refine aa rfl fun _ k0 => ?_; simp only [zO, zT, acs, reduceCtorEq, M, E, O, Z, Y, V, Mly.av]; (repeat refine an ?_); (try refine .inl ?_); apply k0; clear k0; simp only [zP, E])
 refine ae ?_
 apply k22; clear k22; refine kp [0, 1, 2, 3, 11, 20, 23, 26, 36, 42, 43] ?_
 refine aG ?_
 refine bB (fun n23 s23 => ∃ (k : Nat), (k ≤ m.nx.length) ∧ (∀ i, i < k → gN m i = 0) ∧ n23 = m.nx.length - k ∧ s23 = { env := [(1, .one (.ptr 0 0 0 0)), (3, .one (.int .i64 (m.nx.length : Int))), (42, .one (.int .i64 (m.nx.length : Int))), (43, .one (.int .i64 (k : Int)))], L := [.vars 27 [.int .i64 m.inp, .int .i64 m.st, .list (.list (.int .i64)) m.nx, .list (.list (.int .i64)) m.ot]] }) ?_ ?_
 ·exact ⟨_, _, aK [1, 3, 42, 43], 0, Nat.zero_le _, fun i hi => by omega, rfl, rfl⟩
 rintro n23 s23 ⟨k, hk, hrows, rfl, rfl⟩
 refine ab fun _ k24 => ?_
 refine af hP hN rfl ?_
 (refine aa rfl fun _ k0 => ?_; simp only [zO, zT, acs, reduceCtorEq, M, E, O, Z, Y, V, Mly.av]; (repeat refine an ?_); (try refine .inl ?_); apply k0; clear k0; simp only [zP, E])
 refine ae ?_
 apply k24; clear k24; refine kp [1, 3, 42, 43, 44] ?_
 refine ab fun _ k25 => ?_
 refine cd (fun hc26 => ?_) (fun hc26 => ?_)
 ·(try simp only [zB, reduceCtorEq] at hc26)
  refine az ?_
  apply k25; clear k25; refine kp [1, 3, 42, 43, 44] ?_
  refine ab fun _ k27 => ?_
  refine aG ?_
  refine ab fun _ k28 => ?_
  refine af hP hN rfl ?_
  iterate 2 (refine aa rfl fun _ k0 => ?_; simp only [zO, zT, acs, reduceCtorEq, M, E, O, Z, Y, V, Mly.av]; (repeat refine an ?_); (try refine .inl ?_); apply k0; clear k0; simp only [zP, E])
  refine ae ?_
  apply k28; clear k28; refine kp [1, 3, 4, 42, 43, 44] ?_
  refine ab fun _ k29 => ?_
  refine ab fun _ k30 => ?_
  refine cC hP hN Tryd.mixed rfl ?_
  iterate 10 (refine aa rfl fun _ k0 => ?_; simp only [zO, zT, acs, reduceCtorEq, M, E, O, Z, Y, V, Mly.av]; (repeat refine an ?_); (try refine .inl ?_); apply k0; clear k0; simp only [zP, E])
  refine' ar (want := false) 9 rfl (m := 55) (by simp only [zP, M, E]; exact rfl) (by kernel_rfl) rfl rfl rfl rfl rfl (fun hg31 => ?a31) ?b31 ?c31
  case a31 =>
   have hq31 := hg31; (try simp only [zB, reduceCtorEq] at hg31); simp only [zE]
   iterate 9 (refine aJ rfl fun _ k0 => ?_; simp only [zO, zT, acs, reduceCtorEq, M, E, O, Z, Y, V, Mly.av]; (repeat refine an ?_); (try refine .inl ?_); apply k0; clear k0; simp only [zP, E])
   (refine aa rfl fun _ k0 => ?_; simp only [zO, zT, acs, reduceCtorEq, M, E, O, Z, Y, V, Mly.av]; (repeat refine an ?_); (try refine .inl ?_); apply k0; clear k0; simp only [zP, E])
   refine ae ?_
   refine ⟨by simp only [zP, M, E]; exact rfl, rfl, ?_, rfl⟩; (repeat refine au rfl ?_); exact aH (by exact rfl) hq31
  case b31 => exact aU
  simp only [aA, aw]
  refine ae ?_
  refine ⟨by kernel_rfl, ?_⟩
  apply k30; clear k30; refine kp [1, 3, 4, 42, 43, 44, 65] ?_
  refine cd (fun hc32 => ?_) (fun hc32 => ?_)
  ·(try simp only [zB, reduceCtorEq] at hc32)
   refine ab fun _ k33 => ?_
   refine af hP hN rfl ?_
   (refine aa rfl fun _ k0 => ?_; simp only [zO, zT, acs, reduceCtorEq, M, E, O, Z, Y, V, Mly.av]; (repeat refine an ?_); (try refine .inl ?_); apply k0; clear k0; simp only [zP, E])
   refine ae ?_
   apply k33; clear k33; refine kp [1, 2, 3, 4, 42, 43, 44, 65] ?_
   refine ay ?_
   refine ⟨nr, _, rfl, ?_⟩; simp only [zF, zP, M, E, Mly.av]
   refine VLE.of_eq ?_
   refine congrArg (fun n => AV.one (AC.int IntKind.i64 n)) ?_
   symm
   unfold bv
   first
   | (rw [if_pos (by omega)]; done)
   | (rw [if_neg (by omega), if_pos (by omega)]; done)
   | (rw [if_neg (by omega), if_neg (by omega), if_pos (by omega)]; done)
   | (rw [if_neg (by omega), if_neg (by omega), if_neg (by omega), if_pos (by omega)]; done)
   | (rw [if_neg (by omega), if_neg (by omega), if_neg (by omega), if_neg (by omega), if_pos (by omega)]; done)
   | (rw [if_neg (by omega), if_neg (by omega), if_neg (by omega), if_neg (by omega), if_neg (by omega)]
      first
      | exact (bh hrows (by omega) (by rw [bD hc32.1 hc32.2 (j := j) (by omega) (by unfold bb; omega)]; decide)).trans (bD hc32.1 hc32.2 (by omega) (by unfold bb; omega))
      | exact (bh hrows (by omega) (by rw [bE hc32]; decide)).trans (bE hc32)
      | exact bQ fun i hi => hrows i (by omega))
  (try simp only [zB, reduceCtorEq] at hc32)
  refine az ?_
  apply k29; clear k29; refine kp [1, 3, 4, 42, 43, 44, 65] ?_
  refine ab fun _ k34 => ?_
  refine af hP hN rfl ?_
  iterate 3 (refine aa rfl fun _ k0 => ?_; simp only [zO, zT, acs, reduceCtorEq, M, E, O, Z, Y, V, Mly.av]; (repeat refine an ?_); (try refine .inl ?_); apply k0; clear k0; simp only [zP, E])
  refine ae ?_
  apply k34; clear k34; refine kp [1, 3, 4, 42, 43, 44, 65, 67, 68] ?_
  refine aG ?_
  refine bB (fun n35 s35 => ∃ (j : Nat), ((j : Int) ≤ m.inp) ∧ (∀ a, a < j → ¬ bb m k a) ∧ n35 = m.inp.toNat - j ∧ s35 = { env := [(1, .one (.ptr 0 0 0 0)), (3, .one (.int .i64 (m.nx.length : Int))), (4, .one (.int .i64 (k : Int))), (42, .one (.int .i64 (m.nx.length : Int))), (43, .one (.int .i64 (k : Int))), (67, .one (.int .i64 m.inp)), (68, .one (.int .i64 (j : Int)))], L := [.vars 27 [.int .i64 m.inp, .int .i64 m.st, .list (.list (.int .i64)) m.nx, .list (.list (.int .i64)) m.ot]] }) ?_ ?_
  ·refine ⟨_, _, aK [1, 3, 4, 42, 43, 67, 68], 0, ?_, fun i hi => by omega, rfl, rfl⟩; omega
  rintro n35 s35 ⟨j, hj, hcells, rfl, rfl⟩
  refine ab fun _ k36 => ?_
  refine af hP hN rfl ?_
  (refine aa rfl fun _ k0 => ?_; simp only [zO, zT, acs, reduceCtorEq, M, E, O, Z, Y, V, Mly.av]; (repeat refine an ?_); (try refine .inl ?_); apply k0; clear k0; simp only [zP, E])
  refine ae ?_
  apply k36; clear k36; refine kp [1, 3, 4, 42, 43, 67, 68, 69] ?_
  refine ab fun _ k37 => ?_
  refine cd (fun hc38 => ?_) (fun hc38 => ?_)
  ·(try simp only [zB, reduceCtorEq] at hc38)
   refine az ?_
   apply k37; clear k37; refine kp [1, 3, 4, 42, 43, 67, 68, 69] ?_
   refine ab fun _ k39 => ?_
   refine aG ?_
   refine ab fun _ k40 => ?_
   refine af hP hN rfl ?_
   iterate 2 (refine aa rfl fun _ k0 => ?_; simp only [zO, zT, acs, reduceCtorEq, M, E, O, Z, Y, V, Mly.av]; (repeat refine an ?_); (try refine .inl ?_); apply k0; clear k0; simp only [zP, E])
   refine ae ?_
   apply k40; clear k40; refine kp [1, 3, 4, 5, 42, 43, 67, 68, 69] ?_
   refine ab fun _ k41 => ?_
   refine cC hP hN Tryd.mixed rfl ?_
   iterate 18 (refine aa rfl fun _ k0 => ?_; simp only [zO, zT, acs, reduceCtorEq, M, E, O, Z, Y, V, Mly.av]; (repeat refine an ?_); (try refine .inl ?_); apply k0; clear k0; simp only [zP, E])
   refine ae ?_
   refine ⟨by kernel_rfl, ?_⟩
   apply k41; clear k41; refine kp [1, 3, 4, 5, 6, 7, 42, 43, 67, 68, 69] ?_
   refine ab fun _ k42 => ?_
   refine af hP hN rfl ?_
   iterate 3 (refine aa rfl fun _ k0 => ?_; simp only [zO, zT, acs, reduceCtorEq, M, E, O, Z, Y, V, Mly.av]; (repeat refine an ?_); (try refine .inl ?_); apply k0; clear k0; simp only [zP, E])
   refine' ar (want := false) 3 rfl (m := 89) (by simp only [zP, M, E]; exact rfl) (by kernel_rfl) rfl rfl rfl rfl rfl (fun hg43 => ?a43) ?b43 ?c43
   case a43 =>
    have hq43 := hg43; (try simp only [zB, reduceCtorEq] at hg43); simp only [zE]
    iterate 3 (refine aJ rfl fun _ k0 => ?_; simp only [zO, zT, acs, reduceCtorEq, M, E, O, Z, Y, V, Mly.av]; (repeat refine an ?_); (try refine .inl ?_); apply k0; clear k0; simp only [zP, E])
    (refine aa rfl fun _ k0 => ?_; simp only [zO, zT, acs, reduceCtorEq, M, E, O, Z, Y, V, Mly.av]; (repeat refine an ?_); (try refine .inl ?_); apply k0; clear k0; simp only [zP, E])
    refine ae ?_
    refine ⟨by simp only [zP, M, E]; exact rfl, rfl, ?_, rfl⟩; (repeat refine au rfl ?_); exact aH (by exact rfl) hq43
   case b43 => exact aU
   simp only [aA, aw]
   (refine aa rfl fun _ k0 => ?_; simp only [zO, zT, acs, reduceCtorEq, M, E, O, Z, Y, V, Mly.av]; (repeat refine an ?_); (try refine .inl ?_); apply k0; clear k0; simp only [zP, E])
   refine' ar (want := false) 2 rfl (m := 94) (by simp only [zP, M, E]; exact rfl) (by kernel_rfl) rfl rfl rfl rfl rfl (fun hg44 => ?a44) ?b44 ?c44
   case a44 =>
    have hq44 := hg44; (try simp only [zB, reduceCtorEq] at hg44); simp only [zE]
    iterate 2 (refine aJ rfl fun _ k0 => ?_; simp only [zO, zT, acs, reduceCtorEq, M, E, O, Z, Y, V, Mly.av]; (repeat refine an ?_); (try refine .inl ?_); apply k0; clear k0; simp only [zP, E])
    (refine aa rfl fun _ k0 => ?_; simp only [zO, zT, acs, reduceCtorEq, M, E, O, Z, Y, V, Mly.av]; (repeat refine an ?_); (try refine .inl ?_); apply k0; clear k0; simp only [zP, E])
    refine ae ?_
    refine ⟨by simp only [zP, M, E]; exact rfl, rfl, ?_, rfl⟩; (repeat refine au rfl ?_); exact aH (by exact rfl) hq44
   case b44 => exact aU
   simp only [aA, aw]
   (refine aa rfl fun _ k0 => ?_; simp only [zO, zT, acs, reduceCtorEq, M, E, O, Z, Y, V, Mly.av]; (repeat refine an ?_); (try refine .inl ?_); apply k0; clear k0; simp only [zP, E])
   refine' ar (want := false) 2 rfl (m := 98) (by simp only [zP, M, E]; exact rfl) (by kernel_rfl) rfl rfl rfl rfl rfl (fun hg45 => ?a45) ?b45 ?c45
   case a45 =>
    have hq45 := hg45; (try simp only [zB, reduceCtorEq] at hg45); simp only [zE]
    iterate 2 (refine aJ rfl fun _ k0 => ?_; simp only [zO, zT, acs, reduceCtorEq, M, E, O, Z, Y, V, Mly.av]; (repeat refine an ?_); (try refine .inl ?_); apply k0; clear k0; simp only [zP, E])
    (refine aa rfl fun _ k0 => ?_; simp only [zO, zT, acs, reduceCtorEq, M, E, O, Z, Y, V, Mly.av]; (repeat refine an ?_); (try refine .inl ?_); apply k0; clear k0; simp only [zP, E])
    refine ae ?_
    refine ⟨by simp only [zP, M, E]; exact rfl, rfl, ?_, rfl⟩; (repeat refine au rfl ?_); exact aH (by exact rfl) hq45
   case b45 => exact aU
   simp only [aA, aw]
   refine ae ?_
   apply k42; clear k42; refine kp [1, 3, 4, 5, 6, 7, 42, 43, 67, 68, 69, 101] ?_
   refine cd (fun hc46 => ?_) (fun hc46 => ?_)
   ·(try simp only [zB, reduceCtorEq] at hc46)
    refine ab fun _ k47 => ?_
    refine af hP hN rfl ?_
    (refine aa rfl fun _ k0 => ?_; simp only [zO, zT, acs, reduceCtorEq, M, E, O, Z, Y, V, Mly.av]; (repeat refine an ?_); (try refine .inl ?_); apply k0; clear k0; simp only [zP, E])
    refine ae ?_
    apply k47; clear k47; refine kp [1, 2, 3, 4, 5, 6, 7, 42, 43, 67, 68, 69, 101] ?_
    refine ay ?_
    refine ⟨nr, _, rfl, ?_⟩; simp only [zF, zP, M, E, Mly.av]
    refine VLE.of_eq ?_
    refine congrArg (fun n => AV.one (AC.int IntKind.i64 n)) ?_
    symm
    unfold bv
    first
    | (rw [if_pos (by omega)]; done)
    | (rw [if_neg (by omega), if_pos (by omega)]; done)
    | (rw [if_neg (by omega), if_neg (by omega), if_pos (by omega)]; done)
    | (rw [if_neg (by omega), if_neg (by omega), if_neg (by omega), if_pos (by omega)]; done)
    | (rw [if_neg (by omega), if_neg (by omega), if_neg (by omega), if_neg (by omega), if_pos (by omega)]; done)
    | (rw [if_neg (by omega), if_neg (by omega), if_neg (by omega), if_neg (by omega), if_neg (by omega)]
       first
       | exact (bh hrows (by omega) (by rw [bD hc32.1 hc32.2 (j := j) (by omega) (by unfold bb; omega)]; decide)).trans (bD hc32.1 hc32.2 (by omega) (by unfold bb; omega))
       | exact (bh hrows (by omega) (by rw [bE hc32]; decide)).trans (bE hc32)
       | exact bQ fun i hi => hrows i (by omega))
   (try simp only [zB, reduceCtorEq] at hc46)
   refine az ?_
   apply k39; clear k39; refine kp [1, 3, 4, 5, 6, 7, 42, 43, 67, 68, 69, 101] ?_
   refine af hP hN rfl ?_
   iterate 2 (refine aa rfl fun _ k0 => ?_; simp only [zO, zT, acs, reduceCtorEq, M, E, O, Z, Y, V, Mly.av]; (repeat refine an ?_); (try refine .inl ?_); apply k0; clear k0; simp only [zP, E])
   refine ae ?_
   refine ⟨_, _, ?_, aK [1, 3, 4, 42, 43, 67, 68], j + 1, ?_, fun a ha => ?_, rfl, rfl⟩
   · omega
   · omega
   · by_cases e : a = j
     · rw [e]; unfold bb; omega
     · exact hcells a (by omega)
  (try simp only [zB, reduceCtorEq] at hc38)
  refine bz ?_
  apply k27; clear k27; refine kp [1, 3, 4, 42, 43, 67, 68, 69] ?_
  refine af hP hN rfl ?_
  iterate 2 (refine aa rfl fun _ k0 => ?_; simp only [zO, zT, acs, reduceCtorEq, M, E, O, Z, Y, V, Mly.av]; (repeat refine an ?_); (try refine .inl ?_); apply k0; clear k0; simp only [zP, E])
  refine ae ?_
  refine ⟨_, _, ?_, aK [1, 3, 42, 43], k + 1, by omega, fun i hi => ?_, rfl, rfl⟩
  · omega
  · by_cases e : i = k
    · rw [e]; exact rZ hc32.1 hc32.2 fun a ha => hcells a (by omega)
    · exact hrows i (by omega)
 (try simp only [zB, reduceCtorEq] at hc26)
 refine bz ?_
 apply k21; clear k21; refine kp [1, 3, 42, 43, 44] ?_
 refine ab fun _ k48 => ?_
 refine af hP hN rfl ?_
 (refine aa rfl fun _ k0 => ?_; simp only [zO, zT, acs, reduceCtorEq, M, E, O, Z, Y, V, Mly.av]; (repeat refine an ?_); (try refine .inl ?_); apply k0; clear k0; simp only [zP, E])
 refine ae ?_
 apply k48; clear k48; refine kp [1, 2, 3, 42, 43, 44] ?_
 refine ay ?_
 refine ⟨nr, _, rfl, ?_⟩; simp only [zF, zP, M, E, Mly.av]
 refine VLE.of_eq ?_
 refine congrArg (fun n => AV.one (AC.int IntKind.i64 n)) ?_
 symm
 unfold bv
 first
 | (rw [if_pos (by omega)]; done)
 | (rw [if_neg (by omega), if_pos (by omega)]; done)
 | (rw [if_neg (by omega), if_neg (by omega), if_pos (by omega)]; done)
 | (rw [if_neg (by omega), if_neg (by omega), if_neg (by omega), if_pos (by omega)]; done)
 | (rw [if_neg (by omega), if_neg (by omega), if_neg (by omega), if_neg (by omega), if_pos (by omega)]; done)
 | (rw [if_neg (by omega), if_neg (by omega), if_neg (by omega), if_neg (by omega), if_neg (by omega)]
    first
    | exact (bh hrows (by omega) (by rw [bD hc32.1 hc32.2 (j := j) (by omega) (by unfold bb; omega)]; decide)).trans (bD hc32.1 hc32.2 (by omega) (by unfold bb; omega))
    | exact (bh hrows (by omega) (by rw [bE hc32]; decide)).trans (bE hc32)
    | exact bQ fun i hi => hrows i (by omega))
theorem sb (m : Mly) : bI Tryd.prog 21 [m.av] (.one (.list (.int .i64) (dY m))) := by
 refine aP Tryd.func21 rfl (by kernel_rfl) (Nat.le_of_ble_eq_true rfl) rfl fun C hP hN hB => ?_
 replace hN : C.N = 24 := hN
 simp only [aW, E]
 refine ab fun _ k1 => ?_
 refine af hP hN rfl ?_
 iterate 2 (refine aa rfl fun _ k0 => ?_; simp only [zO, zT, acs, reduceCtorEq, M, E, O, Z, Y, V, Mly.av]; (repeat refine an ?_); (try refine .inl ?_); apply k0; clear k0; simp only [zP, E])
 refine ae ?_
 apply k1; clear k1; refine kp [0, 1, 2] ?_
 refine ab fun _ k2 => ?_
 refine ab fun _ k3 => ?_
 refine af hP hN rfl ?_
 (refine aa rfl fun _ k0 => ?_; simp only [zO, zT, acs, reduceCtorEq, M, E, O, Z, Y, V, Mly.av]; (repeat refine an ?_); (try refine .inl ?_); apply k0; clear k0; simp only [zP, E])
 refine aa rfl fun _ k0 => ?_
 refine ax (h := aj (oB m)) rfl rfl (by first | exact rfl | (simp only [ev, zP, M, E]; exact rfl)) (by simp only [zV, acs, reduceCtorEq, M, E, O, Z, Y, V, Mly.av]) ?_
 apply k0; clear k0; simp only [zP, E]
 (refine aa rfl fun _ k0 => ?_; simp only [zO, zT, acs, reduceCtorEq, M, E, O, Z, Y, V, Mly.av]; (repeat refine an ?_); (try refine .inl ?_); apply k0; clear k0; simp only [zP, E])
 refine ae ?_
 apply k3; clear k3; refine kp [0, 1, 2, 8] ?_
 refine cd (fun hc4 => ?_) (fun hc4 => ?_)
 ·(try simp only [zB, reduceCtorEq] at hc4)
  refine ab fun _ k5 => ?_
  refine af hP hN rfl ?_
  (refine aa rfl fun _ k0 => ?_; simp only [zO, zT, acs, reduceCtorEq, M, E, O, Z, Y, V, Mly.av]; (repeat refine an ?_); (try refine .inl ?_); apply k0; clear k0; simp only [zP, E])
  refine ae ?_
  apply k5; clear k5; refine kp [0, 1, 2, 8] ?_
  refine ay ?_
  refine ⟨nr, _, rfl, ?_⟩; simp only [zF, zP, M, E, Mly.av]
  first
  | (rw [mh ‹¬bv m = 0›]; exact nT (mJ rfl))
  | (rw [fX hv]; exact VLE.of_eq rfl)
 (try simp only [zB, reduceCtorEq] at hc4)
 have hv : bv m = 0 := by omega
 have hm := nG hv; have hol := hm.ol; have hi1 := hm.i1; have hi2 := hm.i2; have hn1 := hm.n1; have hn2 := hm.n2
 refine az ?_
 apply k2; clear k2; refine kp [0, 1, 2, 8] ?_
 refine ab fun _ k6 => ?_
 refine af hP hN rfl ?_
 (refine aa rfl fun _ k0 => ?_; simp only [zO, zT, acs, reduceCtorEq, M, E, O, Z, Y, V, Mly.av]; (repeat refine an ?_); (try refine .inl ?_); apply k0; clear k0; simp only [zP, E])
 refine ae ?_
 apply k6; clear k6; refine kp [0, 1, 2, 3, 8] ?_
 refine ab fun _ k7 => ?_
 refine ab fun _ k8 => ?_
 refine af hP hN rfl ?_
 iterate 4 (refine aa rfl fun _ k0 => ?_; simp only [zO, zT, acs, reduceCtorEq, M, E, O, Z, Y, V, Mly.av]; (repeat refine an ?_); (try refine .inl ?_); apply k0; clear k0; simp only [zP, E])
 refine ae ?_
 apply k8; clear k8; refine kp [0, 1, 2, 3, 8, 10, 11, 12] ?_
 refine aG ?_
 refine oW 3 (.int .i64) 3 (by decide) rfl ?_; simp only [ah, aq, ak, am, Nat.zero_add, E]
 refine bB (fun n9 s9 => ∃ (s : Nat) (v : Nat), (s ≤ m.ot.length) ∧ n9 = m.ot.length - s ∧ s9 = { env := [(3, .one (.row 1 v)), (10, .one (.list (.list (.int .i64)) m.ot)), (11, .one (.int .i64 (m.ot.length : Int))), (12, .one (.int .i64 (s : Int)))], L := [.vars 27 [.int .i64 m.inp, .int .i64 m.st, .list (.list (.int .i64)) m.nx, .list (.list (.int .i64)) m.ot], .row (.int .i64) 3 v (m.ot.take s).flatten] }) ?_ ?_
 ·exact ⟨_, _, aK [3, 10, 11, 12], 0, 0, Nat.zero_le _, rfl, rfl⟩
 rintro n9 s9 ⟨s, v, hs, rfl, rfl⟩
 refine ab fun _ k10 => ?_
 refine af hP hN rfl ?_
 (refine aa rfl fun _ k0 => ?_; simp only [zO, zT, acs, reduceCtorEq, M, E, O, Z, Y, V, Mly.av]; (repeat refine an ?_); (try refine .inl ?_); apply k0; clear k0; simp only [zP, E])
 refine ae ?_
 apply k10; clear k10; refine kp [3, 10, 11, 12, 13] ?_
 refine ab fun _ k11 => ?_
 refine cd (fun hc12 => ?_) (fun hc12 => ?_)
 ·(try simp only [zB, reduceCtorEq] at hc12)
  refine az ?_
  apply k11; clear k11; refine kp [3, 10, 11, 12, 13] ?_
  refine ab fun _ k13 => ?_
  refine aG ?_
  refine ab fun _ k14 => ?_
  refine af hP hN rfl ?_
  iterate 3 (refine aa rfl fun _ k0 => ?_; simp only [zO, zT, acs, reduceCtorEq, M, E, O, Z, Y, V, Mly.av]; (repeat refine an ?_); (try refine .inl ?_); apply k0; clear k0; simp only [zP, E])
  refine ae ?_
  apply k14; clear k14; refine kp [3, 5, 10, 11, 12, 13] ?_
  have hf2 := fW hm (k := s + 1) (by omega); have hf3 := fW hm (k := s) (by omega); rw [dW _ (by omega), ag] at hf2
  refine af hP hN rfl ?_
  iterate 4 (refine aa rfl fun _ k0 => ?_; simp only [zO, zT, acs, reduceCtorEq, M, E, O, Z, Y, V, Mly.av]; (repeat refine an ?_); (try refine .inl ?_); apply k0; clear k0; simp only [zP, E])
  refine ae ?_
  apply k13; clear k13; refine kp [3, 5, 10, 11, 12, 13] ?_
  refine af hP hN rfl ?_
  iterate 2 (refine aa rfl fun _ k0 => ?_; simp only [zO, zT, acs, reduceCtorEq, M, E, O, Z, Y, V, Mly.av]; (repeat refine an ?_); (try refine .inl ?_); apply k0; clear k0; simp only [zP, E])
  refine ae ?_
  refine ⟨_, _, ?_, aK [3, 10, 11, 12], s + 1, v + 1, by omega, rfl, ?_⟩
  · omega
  · rw [dW _ (by omega)]; rfl
 (try simp only [zB, reduceCtorEq] at hc12)
 refine bz ?_
 apply k7; clear k7; refine kp [3, 10, 11, 12, 13] ?_
 refine ab fun _ k15 => ?_
 have hsl : s = m.ot.length := by omega
 subst hsl
 rw [aD]
 have hf2 := fW hm (k := m.ot.length) (Nat.le_refl _); have hf3 := kq hm m.ot.length (Nat.le_refl _); rw [aD] at hf2 hf3
 have hp9 : (1 : Int) * 1 ≤ m.ot.length * m.inp := Int.mul_le_mul (by omega) (by omega) (by omega) (by omega)
 have hpos : 0 < m.ot.flatten.length := by omega
 refine af hP hN rfl ?_
 (refine aa rfl fun _ k0 => ?_; simp only [zO, zT, acs, reduceCtorEq, M, E, O, Z, Y, V, Mly.av]; (repeat refine an ?_); (try refine .inl ?_); apply k0; clear k0; simp only [zP, E])
 refine aa rfl fun _ k0 => ?_
 refine ax (h := pf (k := 1) (ver := v) (xs := m.ot.flatten) sL rfl (by omega) (by omega)) rfl rfl (by first | exact rfl | (simp only [ev, zP, M, E]; exact rfl)) (by simp only [zV, acs, reduceCtorEq, M, E, O, Z, Y, V, Mly.av]) ?_
 apply k0; clear k0; simp only [zP, E]
 refine ae ?_
 apply k15; clear k15; refine kp [3, 10, 11, 12, 13] ?_
 refine ab fun _ k16 => ?_
 refine af hP hN rfl ?_
 (refine aa rfl fun _ k0 => ?_; simp only [zO, zT, acs, reduceCtorEq, M, E, O, Z, Y, V, Mly.av]; (repeat refine an ?_); (try refine .inl ?_); apply k0; clear k0; simp only [zP, E])
 refine aa rfl fun _ k0 => ?_
 refine ax (h := m5 (k := 1) (ver := v) (xs := eX m.ot.flatten) oE rfl (by rw [kF]; omega) (by rw [kF]; omega) nB) rfl rfl (by first | exact rfl | (simp only [ev, zP, M, E]; exact rfl)) (by simp only [zV, acs, reduceCtorEq, M, E, O, Z, Y, V, Mly.av]) ?_
 apply k0; clear k0; simp only [zP, E]
 (refine aa rfl fun _ k0 => ?_; simp only [zO, zT, acs, reduceCtorEq, M, E, O, Z, Y, V, Mly.av]; (repeat refine an ?_); (try refine .inl ?_); apply k0; clear k0; simp only [zP, E])
 refine ae ?_
 apply k16; clear k16; refine kp [2, 3, 10, 11, 12, 13] ?_
 refine ay ?_
 refine ⟨nr, _, rfl, ?_⟩; simp only [zF, zP, M, E, Mly.av]
 first
 | (rw [mh ‹¬bv m = 0›]; exact nT (mJ rfl))
 | (rw [fX hv]; exact VLE.of_eq rfl)
theorem pL (x : Mdl) : bI Tryd.prog 10 [x.av] (.one (.int .i64 (mvE x))) := by
 refine aP Tryd.func10 rfl (by kernel_rfl) (Nat.le_of_ble_eq_true rfl) rfl fun C hP hN hB => ?_
 replace hN : C.N = 52 := hN
 simp only [aW, E]
 refine ab fun _ k1 => ?_
 refine af hP hN rfl ?_
 iterate 2 (refine aa rfl fun _ k0 => ?_; simp only [zO, zT, acs, reduceCtorEq, M, E, O, Z, Y, V, Mdl.av, Mdl.cs]; (repeat refine an ?_); (try refine .inl ?_); apply k0; clear k0; simp only [zP, E])
 refine ae ?_
 apply k1; clear k1; refine kp [0, 1, 2] ?_
 refine ab fun _ k2 => ?_
 refine ab fun _ k3 => ?_
 refine af hP hN rfl ?_
 iterate 2 (refine aa rfl fun _ k0 => ?_; simp only [zO, zT, acs, reduceCtorEq, M, E, O, Z, Y, V, Mdl.av, Mdl.cs]; (repeat refine an ?_); (try refine .inl ?_); apply k0; clear k0; simp only [zP, E])
 refine aa rfl fun _ k0 => ?_
 refine ax (h := aj (ko x.nm)) rfl rfl (by first | exact rfl | (simp only [ev, zP, M, E]; exact rfl)) (by simp only [zV, acs, reduceCtorEq, M, E, O, Z, Y, V, Mdl.av, Mdl.cs]) ?_
 apply k0; clear k0; simp only [zP, E]
 (refine aa rfl fun _ k0 => ?_; simp only [zO, zT, acs, reduceCtorEq, M, E, O, Z, Y, V, Mdl.av, Mdl.cs]; (repeat refine an ?_); (try refine .inl ?_); apply k0; clear k0; simp only [zP, E])
 refine ae ?_
 apply k3; clear k3; refine kp [0, 1, 2, 11] ?_
 refine cd (fun hc4 => ?_) (fun hc4 => ?_)
 ·(try simp only [zB, reduceCtorEq] at hc4)
  refine ab fun _ k5 => ?_
  refine af hP hN rfl ?_
  (refine aa rfl fun _ k0 => ?_; simp only [zO, zT, acs, reduceCtorEq, M, E, O, Z, Y, V, Mdl.av, Mdl.cs]; (repeat refine an ?_); (try refine .inl ?_); apply k0; clear k0; simp only [zP, E])
  refine ae ?_
  apply k5; clear k5; refine kp [0, 1, 2, 11] ?_
  refine ay ?_
  refine ⟨nr, _, rfl, ?_⟩; simp only [zF, zP, M, E, Mdl.av, Mdl.cs]
  refine VLE.of_eq ?_
  refine congrArg (fun n => AV.one (AC.int IntKind.i64 n)) ?_
  symm
  first
  | exact pb (by assumption)
  | exact oy (by assumption) (by omega) hq (by assumption)
  | (have hi0 : alE x.ins = 0 := hq 0 (by omega)
     have hi1 : alE x.outs = 0 := hq 1 (by omega)
     first
     | exact nY (by assumption) hi0 hi1 (by assumption)
     | exact oH (by assumption) hi0 hi1 (by assumption) (by omega)
     | exact mU (by assumption) hi0 hi1 (by assumption) (by assumption))
 (try simp only [zB, reduceCtorEq] at hc4)
 refine az ?_
 apply k2; clear k2; refine kp [0, 1, 2, 11] ?_
 refine ab fun _ k6 => ?_
 refine ab fun _ k7 => ?_
 refine af hP hN rfl ?_
 iterate 6 (refine aa rfl fun _ k0 => ?_; simp only [zO, zT, acs, reduceCtorEq, M, E, O, Z, Y, V, Mdl.av, Mdl.cs]; (repeat refine an ?_); (try refine .inl ?_); apply k0; clear k0; simp only [zP, E])
 refine ae ?_
 apply k7; clear k7; refine kp [0, 1, 2, 11, 16, 17] ?_
 refine aG ?_
 refine bB (fun n8 s8 => ∃ (k : Nat), (k ≤ 2) ∧ (∀ q, q < k → alE ([x.ins, x.outs].getD q []) = 0) ∧ n8 = 2 - k ∧ s8 = { env := [(1, .one (.ptr 0 0 0 0)), (2, .one (.int .i64 0)), (16, .agg [.list .str x.ins, .list .str x.outs]), (17, .one (.int .i64 (k : Int)))], L := [.vars 29 [.str x.nm, .list .str x.ins, .list .str x.outs, .int .i64 x.m.inp, .int .i64 x.m.st, .list (.list (.int .i64)) x.m.nx, .list (.list (.int .i64)) x.m.ot]] }) ?_ ?_
 ·exact ⟨_, _, aK [1, 2, 16, 17], 0, Nat.zero_le _, fun q hq => by omega, rfl, rfl⟩
 rintro n8 s8 ⟨k, hk, hq, rfl, rfl⟩
 refine ab fun _ k9 => ?_
 refine af hP hN rfl ?_
 (refine aa rfl fun _ k0 => ?_; simp only [zO, zT, acs, reduceCtorEq, M, E, O, Z, Y, V, Mdl.av, Mdl.cs]; (repeat refine an ?_); (try refine .inl ?_); apply k0; clear k0; simp only [zP, E])
 refine ae ?_
 apply k9; clear k9; refine kp [1, 2, 16, 17, 18] ?_
 refine ab fun _ k10 => ?_
 refine cd (fun hc11 => ?_) (fun hc11 => ?_)
 ·(try simp only [zB, reduceCtorEq] at hc11)
  refine az ?_
  apply k10; clear k10; refine kp [1, 2, 16, 17, 18] ?_
  refine ab fun _ k12 => ?_
  refine aG ?_
  refine ab fun _ k13 => ?_
  have hk1 : k ≤ 1 := by omega
  have htk : List.take 1 (List.drop k [AC.list Ty.str x.ins, AC.list Ty.str x.outs]) = [AC.list Ty.str ([x.ins, x.outs].getD k [])] := by rcases (show k = 0 ∨ k = 1 by omega) with rfl | rfl <;> rfl
  refine af hP hN rfl ?_
  iterate 3 (refine aa rfl fun _ k0 => ?_; simp only [zO, zT, acs, reduceCtorEq, M, E, O, Z, Y, V, Mdl.av, Mdl.cs, hk1, if_true, htk]; (repeat refine an ?_); (try refine .inl ?_); apply k0; clear k0; simp only [zP, E])
  refine ae ?_
  apply k13; clear k13; refine kp [1, 2, 4, 16, 17, 18] ?_
  refine ab fun _ k14 => ?_
  refine af hP hN rfl ?_
  (refine aa rfl fun _ k0 => ?_; simp only [zO, zT, acs, reduceCtorEq, M, E, O, Z, Y, V, Mdl.av, Mdl.cs]; (repeat refine an ?_); (try refine .inl ?_); apply k0; clear k0; simp only [zP, E])
  refine aa rfl fun _ k0 => ?_
  refine ax (h := aj (hG ([x.ins, x.outs].getD k []))) rfl rfl (by first | exact rfl | (simp only [ev, zP, M, E]; exact rfl)) (by simp only [zV, acs, reduceCtorEq, M, E, O, Z, Y, V, Mdl.av, Mdl.cs]) ?_
  apply k0; clear k0; simp only [zP, E]
  (refine aa rfl fun _ k0 => ?_; simp only [zO, zT, acs, reduceCtorEq, M, E, O, Z, Y, V, Mdl.av, Mdl.cs]; (repeat refine an ?_); (try refine .inl ?_); apply k0; clear k0; simp only [zP, E])
  refine ae ?_
  apply k14; clear k14; refine kp [1, 2, 4, 5, 16, 17, 18] ?_
  refine ab fun _ k15 => ?_
  refine af hP hN rfl ?_
  iterate 2 (refine aa rfl fun _ k0 => ?_; simp only [zO, zT, acs, reduceCtorEq, M, E, O, Z, Y, V, Mdl.av, Mdl.cs]; (repeat refine an ?_); (try refine .inl ?_); apply k0; clear k0; simp only [zP, E])
  refine ae ?_
  apply k15; clear k15; refine kp [1, 2, 4, 5, 16, 17, 18, 23] ?_
  refine cd (fun hc16 => ?_) (fun hc16 => ?_)
  ·(try simp only [zB, reduceCtorEq] at hc16)
   refine ab fun _ k17 => ?_
   refine af hP hN rfl ?_
   iterate 2 (refine aa rfl fun _ k0 => ?_; simp only [zO, zT, acs, reduceCtorEq, M, E, O, Z, Y, V, Mdl.av, Mdl.cs]; (repeat refine an ?_); (try refine .inl ?_); apply k0; clear k0; simp only [zP, E])
   refine ae ?_
   apply k17; clear k17; refine kp [1, 2, 4, 5, 16, 17, 18, 23] ?_
   refine ay ?_
   refine ⟨nr, _, rfl, ?_⟩; simp only [zF, zP, M, E, Mdl.av, Mdl.cs]
   refine VLE.of_eq ?_
   refine congrArg (fun n => AV.one (AC.int IntKind.i64 n)) ?_
   symm
   first
   | exact pb (by assumption)
   | exact oy (by assumption) (by omega) hq (by assumption)
   | (have hi0 : alE x.ins = 0 := hq 0 (by omega)
      have hi1 : alE x.outs = 0 := hq 1 (by omega)
      first
      | exact nY (by assumption) hi0 hi1 (by assumption)
      | exact oH (by assumption) hi0 hi1 (by assumption) (by omega)
      | exact mU (by assumption) hi0 hi1 (by assumption) (by assumption))
  (try simp only [zB, reduceCtorEq] at hc16)
  refine az ?_
  apply k12; clear k12; refine kp [1, 2, 4, 5, 16, 17, 18, 23] ?_
  refine kp [1, 2, 16, 17] ?_
  refine rz (L1 := [_]) rfl (by rw [hB]; exact Nat.zero_le _) rfl rfl ?_
  refine af hP hN rfl ?_
  iterate 2 (refine aa rfl fun _ k0 => ?_; simp only [zO, zT, acs, reduceCtorEq, M, E, O, Z, Y, V, Mdl.av, Mdl.cs]; (repeat refine an ?_); (try refine .inl ?_); apply k0; clear k0; simp only [zP, E])
  refine ae ?_
  refine ⟨_, _, ?_, aK [1, 2, 16, 17], k + 1, by omega, fun q hq2 => ?_, rfl, rfl⟩
  · omega
  · by_cases e : q = k
    · rw [e]; omega
    · exact hq q (by omega)
 (try simp only [zB, reduceCtorEq] at hc11)
 refine bz ?_
 apply k6; clear k6; refine kp [1, 2, 16, 17, 18] ?_
 refine ab fun _ k18 => ?_
 refine ab fun _ k19 => ?_
 refine af hP hN rfl ?_
 iterate 2 (refine aa rfl fun _ k0 => ?_; simp only [zO, zT, acs, reduceCtorEq, M, E, O, Z, Y, V, Mdl.av, Mdl.cs]; (repeat refine an ?_); (try refine .inl ?_); apply k0; clear k0; simp only [zP, E])
 refine aa rfl fun _ k0 => ?_
 refine ax (h := aj (oB x.m)) rfl rfl (by first | exact rfl | (simp only [ev, zP, M, E]; exact rfl)) (by simp only [zV, acs, reduceCtorEq, M, E, O, Z, Y, V, Mdl.av, Mdl.cs]) ?_
 apply k0; clear k0; simp only [zP, E]
 (refine aa rfl fun _ k0 => ?_; simp only [zO, zT, acs, reduceCtorEq, M, E, O, Z, Y, V, Mdl.av, Mdl.cs]; (repeat refine an ?_); (try refine .inl ?_); apply k0; clear k0; simp only [zP, E])
 refine ae ?_
 apply k19; clear k19; refine kp [1, 2, 6, 16, 17, 18] ?_
 refine ab fun _ k20 => ?_
 refine af hP hN rfl ?_
 iterate 2 (refine aa rfl fun _ k0 => ?_; simp only [zO, zT, acs, reduceCtorEq, M, E, O, Z, Y, V, Mdl.av, Mdl.cs]; (repeat refine an ?_); (try refine .inl ?_); apply k0; clear k0; simp only [zP, E])
 refine ae ?_
 apply k20; clear k20; refine kp [1, 2, 6, 16, 17, 18, 30] ?_
 refine cd (fun hc21 => ?_) (fun hc21 => ?_)
 ·(try simp only [zB, reduceCtorEq] at hc21)
  refine ab fun _ k22 => ?_
  refine af hP hN rfl ?_
  iterate 2 (refine aa rfl fun _ k0 => ?_; simp only [zO, zT, acs, reduceCtorEq, M, E, O, Z, Y, V, Mdl.av, Mdl.cs]; (repeat refine an ?_); (try refine .inl ?_); apply k0; clear k0; simp only [zP, E])
  refine ae ?_
  apply k22; clear k22; refine kp [1, 2, 6, 16, 17, 18, 30] ?_
  refine ay ?_
  refine ⟨nr, _, rfl, ?_⟩; simp only [zF, zP, M, E, Mdl.av, Mdl.cs]
  refine VLE.of_eq ?_
  refine congrArg (fun n => AV.one (AC.int IntKind.i64 n)) ?_
  symm
  first
  | exact pb (by assumption)
  | exact oy (by assumption) (by omega) hq (by assumption)
  | (have hi0 : alE x.ins = 0 := hq 0 (by omega)
     have hi1 : alE x.outs = 0 := hq 1 (by omega)
     first
     | exact nY (by assumption) hi0 hi1 (by assumption)
     | exact oH (by assumption) hi0 hi1 (by assumption) (by omega)
     | exact mU (by assumption) hi0 hi1 (by assumption) (by assumption))
 (try simp only [zB, reduceCtorEq] at hc21)
 refine az ?_
 apply k18; clear k18; refine kp [1, 2, 6, 16, 17, 18, 30] ?_
 refine ab fun _ k23 => ?_
 refine af hP hN rfl ?_
 iterate 2 (refine aa rfl fun _ k0 => ?_; simp only [zO, zT, acs, reduceCtorEq, M, E, O, Z, Y, V, Mdl.av, Mdl.cs]; (repeat refine an ?_); (try refine .inl ?_); apply k0; clear k0; simp only [zP, E])
 refine aa rfl fun _ k0 => ?_
 refine ax (h := aj (sb x.m)) rfl rfl (by first | exact rfl | (simp only [ev, zP, M, E]; exact rfl)) (by simp only [zV, acs, reduceCtorEq, M, E, O, Z, Y, V, Mdl.av, Mdl.cs]) ?_
 apply k0; clear k0; simp only [zP, E]
 (refine aa rfl fun _ k0 => ?_; simp only [zO, zT, acs, reduceCtorEq, M, E, O, Z, Y, V, Mdl.av, Mdl.cs]; (repeat refine an ?_); (try refine .inl ?_); apply k0; clear k0; simp only [zP, E])
 refine ae ?_
 apply k23; clear k23; refine kp [1, 2, 6, 7, 16, 17, 18, 30] ?_
 refine ab fun _ k24 => ?_
 refine ab fun _ k25 => ?_
 refine cC hP hN Tryd.mixed rfl ?_
 iterate 9 (refine aa rfl fun _ k0 => ?_; simp only [zO, zT, acs, reduceCtorEq, M, E, O, Z, Y, V, Mdl.av, Mdl.cs]; (repeat refine an ?_); (try refine .inl ?_); apply k0; clear k0; simp only [zP, E])
 refine' ar (want := false) 7 rfl (m := 43) (by simp only [zP, M, E]; exact rfl) (by kernel_rfl) rfl rfl rfl rfl rfl (fun hg26 => ?a26) ?b26 ?c26
 case a26 =>
  have hq26 := hg26; (try simp only [zB, reduceCtorEq] at hg26); simp only [zE]
  (refine aJ rfl fun _ k0 => ?_; simp only [zO, zT, acs, reduceCtorEq, M, E, O, Z, Y, V, Mdl.av, Mdl.cs]; (repeat refine an ?_); (try refine .inl ?_); apply k0; clear k0; simp only [zP, E])
  refine aJ rfl fun _ k0 => ?_
  refine ax (h := aj (tZ (dY x.m) (tK (by omega)))) rfl rfl (by first | exact rfl | (simp only [ev, zP, M, E]; exact rfl)) (by simp only [zV, acs, reduceCtorEq, M, E, O, Z, Y, V, Mdl.av, Mdl.cs]) ?_
  apply k0; clear k0; simp only [zP, E]
  iterate 5 (refine aJ rfl fun _ k0 => ?_; simp only [zO, zT, acs, reduceCtorEq, M, E, O, Z, Y, V, Mdl.av, Mdl.cs]; (repeat refine an ?_); (try refine .inl ?_); apply k0; clear k0; simp only [zP, E])
  (refine aa rfl fun _ k0 => ?_; simp only [zO, zT, acs, reduceCtorEq, M, E, O, Z, Y, V, Mdl.av, Mdl.cs]; (repeat refine an ?_); (try refine .inl ?_); apply k0; clear k0; simp only [zP, E])
  refine ae ?_
  refine ⟨by simp only [zP, M, E]; exact rfl, rfl, ?_, rfl⟩; (repeat refine au rfl ?_); exact aH (by exact rfl) hq26
 case b26 => exact aU
 simp only [aA, aw]
 refine ae ?_
 refine ⟨by kernel_rfl, ?_⟩
 apply k25; clear k25; refine kp [1, 2, 6, 7, 16, 17, 18, 30, 51] ?_
 refine cd (fun hc27 => ?_) (fun hc27 => ?_)
 ·(try simp only [zB, reduceCtorEq] at hc27)
  refine ab fun _ k28 => ?_
  refine af hP hN rfl ?_
  (refine aa rfl fun _ k0 => ?_; simp only [zO, zT, acs, reduceCtorEq, M, E, O, Z, Y, V, Mdl.av, Mdl.cs]; (repeat refine an ?_); (try refine .inl ?_); apply k0; clear k0; simp only [zP, E])
  refine ae ?_
  apply k28; clear k28; refine kp [1, 2, 6, 7, 16, 17, 18, 30, 51] ?_
  refine ay ?_
  refine ⟨nr, _, rfl, ?_⟩; simp only [zF, zP, M, E, Mdl.av, Mdl.cs]
  refine VLE.of_eq ?_
  refine congrArg (fun n => AV.one (AC.int IntKind.i64 n)) ?_
  symm
  first
  | exact pb (by assumption)
  | exact oy (by assumption) (by omega) hq (by assumption)
  | (have hi0 : alE x.ins = 0 := hq 0 (by omega)
     have hi1 : alE x.outs = 0 := hq 1 (by omega)
     first
     | exact nY (by assumption) hi0 hi1 (by assumption)
     | exact oH (by assumption) hi0 hi1 (by assumption) (by omega)
     | exact mU (by assumption) hi0 hi1 (by assumption) (by assumption))
 (try simp only [zB, reduceCtorEq] at hc27)
 refine az ?_
 apply k24; clear k24; refine kp [1, 2, 6, 7, 16, 17, 18, 30, 51] ?_
 refine ab fun _ k29 => ?_
 refine af hP hN rfl ?_
 (refine aa rfl fun _ k0 => ?_; simp only [zO, zT, acs, reduceCtorEq, M, E, O, Z, Y, V, Mdl.av, Mdl.cs]; (repeat refine an ?_); (try refine .inl ?_); apply k0; clear k0; simp only [zP, E])
 refine ae ?_
 apply k29; clear k29; refine kp [1, 2, 6, 7, 16, 17, 18, 30, 51] ?_
 refine ay ?_
 refine ⟨nr, _, rfl, ?_⟩; simp only [zF, zP, M, E, Mdl.av, Mdl.cs]
 refine VLE.of_eq ?_
 refine congrArg (fun n => AV.one (AC.int IntKind.i64 n)) ?_
 symm
 first
 | exact pb (by assumption)
 | exact oy (by assumption) (by omega) hq (by assumption)
 | (have hi0 : alE x.ins = 0 := hq 0 (by omega)
    have hi1 : alE x.outs = 0 := hq 1 (by omega)
    first
    | exact nY (by assumption) hi0 hi1 (by assumption)
    | exact oH (by assumption) hi0 hi1 (by assumption) (by omega)
    | exact mU (by assumption) hi0 hi1 (by assumption) (by assumption))
open Go.Shelf in
def Tryd.lays156_ren : Go.Shelf.Ren := ⟨fun | 156 => 17 | 165 => 28 | 166 => 29 | 169 => 30 | 240 => 43 | 241 => 44 | 276 => 55 | 277 => 56 | n => n, fun | 31 => 22 | 9 => 9 | 3 => 3 | 4 => 4 | 0 => 0 | 20 => 20 | 72 => 66 | 76 => 70 | 70 => 63 | 37 => 64 | 75 => 69 | 127 => 84 | 164 => 95 | 5 => 5 | 80 => 72 | n => n, fun | n => n⟩
theorem Tryd.lays156 : Go.Proofs.Lays.n156 Tryd.prog Tryd.lays156_ren := {
  mixed := by kernel_rfl,
  f156 := Tryd.func17.trans (congrArg some (by kernel_rfl)),
  f165 := Tryd.func28.trans (congrArg some (by kernel_rfl)),
  f166 := Tryd.func29.trans (congrArg some (by kernel_rfl)),
  f169 := Tryd.func30.trans (congrArg some (by kernel_rfl)),
  f240 := Tryd.func43.trans (congrArg some (by kernel_rfl)),
  f241 := Tryd.func44.trans (congrArg some (by kernel_rfl)),
  f276 := Tryd.func55.trans (congrArg some (by kernel_rfl)),
  f277 := Tryd.func56.trans (congrArg some (by kernel_rfl)),
  t0 := Tryd.underlying0,
  a0 := Tryd.isAgg0,
  z0 := Tryd.sizeOf0,
  v0 := Tryd.zeroValue0,
  t3 := Tryd.underlying3,
  a3 := Tryd.isAgg3,
  z3 := Tryd.sizeOf3,
  v3 := Tryd.zeroValue3,
  t4 := Tryd.underlying4,
  a4 := Tryd.isAgg4,
  z4 := Tryd.sizeOf4,
  v4 := Tryd.zeroValue4,
  t9 := Tryd.underlying9,
  a9 := Tryd.isAgg9,
  z9 := Tryd.sizeOf9,
  v9 := Tryd.zeroValue9,
  t20 := Tryd.underlying20,
  a20 := Tryd.isAgg20,
  z20 := Tryd.sizeOf20,
  v20 := Tryd.zeroValue20,
  t31 := Tryd.underlying22,
  a31 := Tryd.isAgg22,
  z31 := Tryd.sizeOf22,
  v31 := Tryd.zeroValue22,
  t37 := Tryd.underlying64,
  a37 := Tryd.isAgg64,
  z37 := Tryd.sizeOf64,
  v37 := Tryd.zeroValue64,
  t70 := Tryd.underlying63,
  a70 := Tryd.isAgg63,
  z70 := Tryd.sizeOf63,
  v70 := Tryd.zeroValue63,
  t72 := Tryd.underlying66,
  a72 := Tryd.isAgg66,
  z72 := Tryd.sizeOf66,
  v72 := Tryd.zeroValue66,
  t75 := Tryd.underlying69,
  a75 := Tryd.isAgg69,
  z75 := Tryd.sizeOf69,
  v75 := Tryd.zeroValue69,
  t76 := Tryd.underlying70,
  a76 := Tryd.isAgg70,
  z76 := Tryd.sizeOf70,
  v76 := Tryd.zeroValue70,
  t127 := Tryd.underlying84,
  a127 := Tryd.isAgg84,
  z127 := Tryd.sizeOf84,
  v127 := Tryd.zeroValue84,
  t164 := Tryd.underlying95,
  a164 := Tryd.isAgg95,
  z164 := Tryd.sizeOf95,
  v164 := Tryd.zeroValue95 }
theorem oQ : Builder.Extra Tryd.prog Tryd.lays156_ren where
  sizeBuilder := by kernel_rfl
  liesBuilder := by kernel_rfl
  t5 := Tryd.underlying5
  a5 := Tryd.isAgg5
  z5 := Tryd.sizeOf5
  v5 := Tryd.zeroValue5
  infoByte := by kernel_rfl
  cellsByte := by kernel_rfl
  sizeByte := by kernel_rfl
  neB5 := by decide
theorem fC (xs : List (List UInt8)) (sep : List UInt8) (h1 : xs.length ≤ 140737488355328) (h2 : (Lib.join xs sep).length ≤ 140737488355328) : bI Tryd.prog 17 [.one (.list .str xs), .one (.str sep)] (.one (.str (Lib.join xs sep))) := by
  refine ⟨⟨Tryd.f17, Tryd.func17, by kernel_rfl, by kernel_rfl⟩, fun C L σ w vs hP hi ha => ?_⟩
  cases vs with
  | nil => exact ha.elim
  | cons v vs =>
  cases vs with
  | nil => exact ha.2.elim
  | cons v2 vs =>
  cases vs with
  | cons _ _ => exact ha.2.2.elim
  | nil =>
  obtain ⟨hv, hv2, _⟩ := ha
  have e2 : v2 = .string ⟨sep.toArray⟩ := hv2.2
  subst e2
  have hd : Dat (avd C L σ) w (.list .str) xs [v] := hv.2
  obtain ⟨A, c, e1, hc, _, hel⟩ := hd
  obtain ⟨rfl, _⟩ := List.cons.inj e1
  cases xs with
  | nil => 
    refine Calls.mono (Any.strings_Join_none Tryd.lays156 oQ A c ⟨sep.toArray⟩ w) fun e w' hh => ?_
    obtain ⟨e3, rfl⟩ := hh
    exact ⟨_, e3, MORE.refl _, rfl, by rw [Lib.join_nil]; rfl⟩
  | cons x xs =>
    obtain ⟨b, o, rfl, _, hb, hcl⟩ := hel (Nat.succ_pos _)
    have hm : ∀ l : List (List UInt8), (l.map fun x => (⟨x.toArray⟩ : ByteArray)).map (·.data.toList) = l := fun l => by
      rw [List.map_map]
      exact (List.map_congr_left fun a _ => rfl).trans (List.map_id l)
    have h := Any.strings_Join Tryd.lays156 oQ b o c ((x :: xs).map fun x => (⟨x.toArray⟩ : ByteArray)) ⟨sep.toArray⟩ w (fun j y hj => by
      rw [List.getElem?_map] at hj
      obtain ⟨z, hz, rfl⟩ := Option.map_eq_some_iff.1 hj
      have hlt := (List.getElem?_eq_some_iff.1 hz).1
      obtain ⟨cs', l1, l2, l3⟩ := hcl j hlt
      have l4 := l2 0 (by decide)
      have e5 : cs' = [.string ⟨(List.getD (x :: xs) j []).toArray⟩] := l3
      rw [e5] at l4
      have e6 : List.getD (x :: xs) j [] = z := by simp [List.getD, hz]
      rw [e6] at l4
      have e7 : o + j * Ty.str.size + 0 = o + j := by show o + j * 1 + 0 = o + j; omega
      rw [e7] at l4
      exact l4) hb (by rw [bV]; exact h1) (by rw [bV]; exact hc) (by rw [hm]; exact h2)
    rw [hm, bV] at h
    refine Calls.mono h fun e w' hh => ?_
    obtain ⟨e3, hw⟩ := hh
    exact ⟨_, e3, ⟨hw.size, hw.os, hw.tape, hw.output, hw.block⟩, rfl, rfl⟩
set_option maxHeartbeats 2000000 in
theorem qW (x : Mdl) (hb : mvE x = 0 → x.m.nx.length ≤ 100) : bI Tryd.prog 9 [x.av] (.tup [.one (.str (SM x)), .one (.int .i64 (mvE x))]) := by
 refine aP Tryd.func9 rfl (by kernel_rfl) (Nat.le_of_ble_eq_true rfl) rfl fun C hP hN hB => ?_
 replace hN : C.N = 110 := hN
 simp only [aW, E]
 refine ab fun _ k1 => ?_
 refine af hP hN rfl ?_
 iterate 3 (refine aa rfl fun _ k0 => ?_; simp only [zO, zT, acs, reduceCtorEq, M, E, O, Z, Y, V, Mdl.av, Mdl.cs]; (repeat refine an ?_); (try refine .inl ?_); apply k0; clear k0; simp only [zP, E])
 refine ae ?_
 apply k1; clear k1; refine kp [0, 1, 2, 3] ?_
 refine ab fun _ k2 => ?_
 refine ab fun _ k3 => ?_
 refine af hP hN rfl ?_
 (refine aa rfl fun _ k0 => ?_; simp only [zO, zT, acs, reduceCtorEq, M, E, O, Z, Y, V, Mdl.av, Mdl.cs]; (repeat refine an ?_); (try refine .inl ?_); apply k0; clear k0; simp only [zP, E])
 refine aa rfl fun _ k0 => ?_
 refine ax (h := aj (pL x)) rfl rfl (by first | exact rfl | (simp only [ev, zP, M, E]; exact rfl)) (by simp only [zV, acs, reduceCtorEq, M, E, O, Z, Y, V, Mdl.av, Mdl.cs]) ?_
 apply k0; clear k0; simp only [zP, E]
 (refine aa rfl fun _ k0 => ?_; simp only [zO, zT, acs, reduceCtorEq, M, E, O, Z, Y, V, Mdl.av, Mdl.cs]; (repeat refine an ?_); (try refine .inl ?_); apply k0; clear k0; simp only [zP, E])
 refine ae ?_
 apply k3; clear k3; refine kp [0, 1, 2, 3, 4] ?_
 refine ab fun _ k4 => ?_
 refine af hP hN rfl ?_
 iterate 2 (refine aa rfl fun _ k0 => ?_; simp only [zO, zT, acs, reduceCtorEq, M, E, O, Z, Y, V, Mdl.av, Mdl.cs]; (repeat refine an ?_); (try refine .inl ?_); apply k0; clear k0; simp only [zP, E])
 refine ae ?_
 apply k4; clear k4; refine kp [0, 1, 2, 3, 4, 15] ?_
 refine cd (fun hc5 => ?_) (fun hc5 => ?_)
 ·(try simp only [zB, reduceCtorEq] at hc5)
  refine ab fun _ k6 => ?_
  refine af hP hN rfl ?_
  iterate 3 (refine aa rfl fun _ k0 => ?_; simp only [zO, zT, acs, reduceCtorEq, M, E, O, Z, Y, V, Mdl.av, Mdl.cs]; (repeat refine an ?_); (try refine .inl ?_); apply k0; clear k0; simp only [zP, E])
  refine ae ?_
  apply k6; clear k6; refine kp [0, 1, 2, 3, 4, 15] ?_
  refine ay ?_
  refine ⟨nr, _, rfl, ?_⟩; simp only [zF, zP, M, E, Mdl.av, Mdl.cs]
  refine VLE.of_eq ?_
  first | (rw [qq (by assumption)]; done) | (rw [lM (by assumption), ‹mvE x = 0›]; done)
 (try simp only [zB, reduceCtorEq] at hc5)
 have hv0 : mvE x = 0 := by omega
 have hv := kt hv0; have hm := hv.mo; have hb := hb hv0
 have hol := hm.ol; have hi1 := hm.i1; have hi2 := hm.i2; have hn1 := hm.n1; have hn2 := hm.n2; have hs1 := hm.s1; have hs2 := hm.s2; have hil := hv.il; have hon := hv.ao.n1
 refine az ?_
 apply k2; clear k2; refine kp [0, 1, 2, 3, 4, 15] ?_
 refine ab fun _ k7 => ?_
 refine af hP hN rfl ?_
 (refine aa rfl fun _ k0 => ?_; simp only [zO, zT, acs, reduceCtorEq, M, E, O, Z, Y, V, Mdl.av, Mdl.cs]; (repeat refine an ?_); (try refine .inl ?_); apply k0; clear k0; simp only [zP, E])
 refine ae ?_
 apply k7; clear k7; refine kp [0, 1, 2, 3, 4, 5, 15] ?_
 refine ab fun _ k8 => ?_
 refine ab fun _ k9 => ?_
 refine af hP hN rfl ?_
 iterate 5 (refine aa rfl fun _ k0 => ?_; simp only [zO, zT, acs, reduceCtorEq, M, E, O, Z, Y, V, Mdl.av, Mdl.cs]; (repeat refine an ?_); (try refine .inl ?_); apply k0; clear k0; simp only [zP, E])
 refine ae ?_
 apply k9; clear k9; refine kp [0, 1, 2, 3, 4, 5, 15, 20, 21] ?_
 refine aG ?_
 refine oW 5 .str 9 (by decide) rfl ?_; simp only [ah, aq, ak, am, Nat.zero_add, E]
 refine bB (fun n10 s10 => ∃ (k : Nat) (u : Nat), (k ≤ x.m.nx.length) ∧ n10 = x.m.nx.length - k ∧ s10 = { env := [(1, .one (.ptr 0 0 0 0)), (2, .one (.str [])), (3, .one (.int .i64 0)), (5, .one (.row 1 u)), (20, .one (.int .i64 (x.m.nx.length : Int))), (21, .one (.int .i64 (k : Int)))], L := [.vars 29 [.str x.nm, .list .str x.ins, .list .str x.outs, .int .i64 x.m.inp, .int .i64 x.m.st, .list (.list (.int .i64)) x.m.nx, .list (.list (.int .i64)) x.m.ot], .row .str 9 u (qs k)] }) ?_ ?_
 ·exact ⟨_, _, aK [1, 2, 3, 5, 20, 21], 0, 0, Nat.zero_le _, rfl, rfl⟩
 rintro n10 s10 ⟨k, u, hk, rfl, rfl⟩
 refine ab fun _ k11 => ?_
 refine af hP hN rfl ?_
 (refine aa rfl fun _ k0 => ?_; simp only [zO, zT, acs, reduceCtorEq, M, E, O, Z, Y, V, Mdl.av, Mdl.cs]; (repeat refine an ?_); (try refine .inl ?_); apply k0; clear k0; simp only [zP, E])
 refine ae ?_
 apply k11; clear k11; refine kp [1, 2, 3, 5, 20, 21, 22] ?_
 refine ab fun _ k12 => ?_
 refine cd (fun hc13 => ?_) (fun hc13 => ?_)
 ·(try simp only [zB, reduceCtorEq] at hc13)
  refine az ?_
  apply k12; clear k12; refine kp [1, 2, 3, 5, 20, 21, 22] ?_
  refine ab fun _ k14 => ?_
  refine aG ?_
  refine ab fun _ k15 => ?_
  refine af hP hN rfl ?_
  iterate 2 (refine aa rfl fun _ k0 => ?_; simp only [zO, zT, acs, reduceCtorEq, M, E, O, Z, Y, V, Mdl.av, Mdl.cs]; (repeat refine an ?_); (try refine .inl ?_); apply k0; clear k0; simp only [zP, E])
  refine ae ?_
  apply k15; clear k15; refine kp [1, 2, 3, 5, 6, 20, 21, 22] ?_
  refine af hP hN rfl ?_
  iterate 2 (refine aa rfl fun _ k0 => ?_; simp only [zO, zT, acs, reduceCtorEq, M, E, O, Z, Y, V, Mdl.av, Mdl.cs, cu]; (repeat refine an ?_); (try refine .inl ?_); apply k0; clear k0; simp only [zP, E])
  refine aa rfl fun _ k0 => ?_
  refine ax (h := aj (kY (k : Int) (by omega) (by omega))) rfl rfl (by first | exact rfl | (simp only [ev, zP, M, E]; exact rfl)) (by simp only [zV, acs, reduceCtorEq, M, E, O, Z, Y, V, Mdl.av, Mdl.cs, cu]) ?_
  apply k0; clear k0; simp only [zP, E]
  iterate 3 (refine aa rfl fun _ k0 => ?_; simp only [zO, zT, acs, reduceCtorEq, M, E, O, Z, Y, V, Mdl.av, Mdl.cs, cu]; (repeat refine an ?_); (try refine .inl ?_); apply k0; clear k0; simp only [zP, E])
  refine ae ?_
  apply k14; clear k14; refine kp [1, 2, 3, 5, 6, 20, 21, 22] ?_
  refine af hP hN rfl ?_
  iterate 2 (refine aa rfl fun _ k0 => ?_; simp only [zO, zT, acs, reduceCtorEq, M, E, O, Z, Y, V, Mdl.av, Mdl.cs]; (repeat refine an ?_); (try refine .inl ?_); apply k0; clear k0; simp only [zP, E])
  refine ae ?_
  refine ⟨_, _, ?_, aK [1, 2, 3, 5, 20, 21], k + 1, u + 1, by omega, rfl, by rw [sK]; rfl⟩
  omega
 (try simp only [zB, reduceCtorEq] at hc13)
 refine bz ?_
 apply k8; clear k8; refine kp [1, 2, 3, 5, 20, 21, 22] ?_
 refine ab fun _ k16 => ?_
 obtain rfl : k = x.m.nx.length := by omega
 refine jA 1 rfl ?_; simp only [aV, bC, zS, M, and_self, and_true, true_and, and_false, false_and, if_true, if_false, eq_self, reduceCtorEq, Nat.one_ne_zero, Nat.zero_ne_one]
 refine ri ?_; simp only [ak, List.append_assoc, am]
 have hj1 := fR hv ([105, 110, 112, 117, 116, 115, 32] ++ Lib.join x.ins [32]) (by simp [hdT])
 have hj2 := fR hv ([111, 117, 116, 112, 117, 116, 115, 32] ++ Lib.join x.outs [32]) (by simp [hdT])
 have hj3 := fR hv ([115, 116, 97, 116, 101, 115, 32] ++ Lib.join (qs x.m.nx.length) [32]) (by simp [hdT])
 have hj4 := fR hv ([115, 116, 97, 114, 116, 32] ++ qn x.m.st.toNat) (by simp [hdT])
 have hj5 := (dj hv.nm).2.2
 have hj6 := cu x.m.nx.length
 simp only [ag, ah, aq] at hj1 hj2 hj3 hj4
 refine cC hP hN Tryd.mixed rfl ?_
 iterate 6 (refine aa rfl fun _ k0 => ?_; simp only [zO, zT, acs, reduceCtorEq, M, E, O, Z, Y, V, Mdl.av, Mdl.cs, ag, ah, aq]; (repeat refine an ?_); (try refine .inl ?_); apply k0; clear k0; simp only [zP, E])
 refine aa rfl fun _ k0 => ?_
 refine ax (h := aj (fC x.ins [32] (by omega) (by omega))) rfl rfl (by first | exact rfl | (simp only [ev, zP, M, E]; exact rfl)) (by simp only [zV, acs, reduceCtorEq, M, E, O, Z, Y, V, Mdl.av, Mdl.cs, ag, ah, aq]) ?_
 apply k0; clear k0; simp only [zP, E]
 iterate 4 (refine aa rfl fun _ k0 => ?_; simp only [zO, zT, acs, reduceCtorEq, M, E, O, Z, Y, V, Mdl.av, Mdl.cs, ag, ah, aq]; (repeat refine an ?_); (try refine .inl ?_); apply k0; clear k0; simp only [zP, E])
 refine aa rfl fun _ k0 => ?_
 refine ax (h := aj (fC x.outs [32] (by omega) (by omega))) rfl rfl (by first | exact rfl | (simp only [ev, zP, M, E]; exact rfl)) (by simp only [zV, acs, reduceCtorEq, M, E, O, Z, Y, V, Mdl.av, Mdl.cs, ag, ah, aq]) ?_
 apply k0; clear k0; simp only [zP, E]
 iterate 2 (refine aa rfl fun _ k0 => ?_; simp only [zO, zT, acs, reduceCtorEq, M, E, O, Z, Y, V, Mdl.av, Mdl.cs, ag, ah, aq]; (repeat refine an ?_); (try refine .inl ?_); apply k0; clear k0; simp only [zP, E])
 refine aa rfl fun _ k0 => ?_
 refine ax (h := aj (fC (qs x.m.nx.length) [32] (by omega) (by omega))) rfl rfl (by first | exact rfl | (simp only [ev, zP, M, E]; exact rfl)) (by simp only [zV, acs, reduceCtorEq, M, E, O, Z, Y, V, Mdl.av, Mdl.cs, ag, ah, aq]) ?_
 apply k0; clear k0; simp only [zP, E]
 iterate 4 (refine aa rfl fun _ k0 => ?_; simp only [zO, zT, acs, reduceCtorEq, M, E, O, Z, Y, V, Mdl.av, Mdl.cs, ag, ah, aq]; (repeat refine an ?_); (try refine .inl ?_); apply k0; clear k0; simp only [zP, E])
 refine aa rfl fun _ k0 => ?_
 refine ax (h := aj (kY x.m.st (by omega) (by omega))) rfl rfl (by first | exact rfl | (simp only [ev, zP, M, E]; exact rfl)) (by simp only [zV, acs, reduceCtorEq, M, E, O, Z, Y, V, Mdl.av, Mdl.cs, ag, ah, aq]) ?_
 apply k0; clear k0; simp only [zP, E]
 (refine aa rfl fun _ k0 => ?_; simp only [zO, zT, acs, reduceCtorEq, M, E, O, Z, Y, V, Mdl.av, Mdl.cs, ag, ah, aq]; (repeat refine an ?_); (try refine .inl ?_); apply k0; clear k0; simp only [zP, E])
 (refine aa rfl fun _ k0 => ?_; simp only [zO, zT, acs, reduceCtorEq, M, E, O, Z, Y, V, Mdl.av, Mdl.cs, ag, ah, aq]; (repeat refine an ?_); refine Or.inr (Or.inr (Or.inl ⟨2, by exact rfl, ?_⟩)); refine k0 _ ?_; clear k0; simp only [zP, E])
 (refine aa rfl fun _ k0 => ?_; simp only [zO, zT, acs, reduceCtorEq, M, E, O, Z, Y, V, Mdl.av, Mdl.cs, ag, ah, aq]; (repeat refine an ?_); (try refine .inl ?_); apply k0; clear k0; simp only [zP, E])
 refine ae ?_
 refine ⟨by kernel_rfl, ?_⟩
 apply k16; clear k16; refine kp [1, 2, 3, 5, 7, 20, 21, 22] ?_
 refine ab fun _ k17 => ?_
 refine ab fun _ k18 => ?_
 refine af hP hN rfl ?_
 iterate 5 (refine aa rfl fun _ k0 => ?_; simp only [zO, zT, acs, reduceCtorEq, M, E, O, Z, Y, V, Mdl.av, Mdl.cs]; (repeat refine an ?_); (try refine .inl ?_); apply k0; clear k0; simp only [zP, E])
 refine ae ?_
 apply k18; clear k18; refine kp [1, 2, 3, 5, 7, 20, 21, 22, 54, 55, 56] ?_
 refine aG ?_
 refine bB (fun n19 s19 => ∃ (s : Nat) (v : Nat), (s ≤ x.m.nx.length) ∧ n19 = x.m.nx.length - s ∧ s19 = { env := [(1, .one (.ptr 0 0 0 0)), (2, .one (.str [])), (3, .one (.int .i64 0)), (5, .one (.list .str (qs x.m.nx.length))), (7, .one (.row 2 v)), (54, .one (.list (.list (.int .i64)) x.m.nx)), (55, .one (.int .i64 (x.m.nx.length : Int))), (56, .one (.int .i64 (s : Int)))], L := [.vars 29 [.str x.nm, .list .str x.ins, .list .str x.outs, .int .i64 x.m.inp, .int .i64 x.m.st, .list (.list (.int .i64)) x.m.nx, .list (.list (.int .i64)) x.m.ot], .dead u, .row .str 9 v (hdT x ++ dG x s)] }) ?_ ?_
 ·exact ⟨_, _, aK [1, 2, 3, 5, 7, 54, 55, 56], 0, 1, Nat.zero_le _, rfl, by simp only [dG, List.range_zero, bC, List.flatten_nil, List.append_nil]; rfl⟩
 rintro n19 s19 ⟨s, v, hs, rfl, rfl⟩
 refine ab fun _ k20 => ?_
 refine af hP hN rfl ?_
 (refine aa rfl fun _ k0 => ?_; simp only [zO, zT, acs, reduceCtorEq, M, E, O, Z, Y, V, Mdl.av, Mdl.cs]; (repeat refine an ?_); (try refine .inl ?_); apply k0; clear k0; simp only [zP, E])
 refine ae ?_
 apply k20; clear k20; refine kp [1, 2, 3, 5, 7, 54, 55, 56, 57] ?_
 refine ab fun _ k21 => ?_
 refine cd (fun hc22 => ?_) (fun hc22 => ?_)
 ·(try simp only [zB, reduceCtorEq] at hc22)
  refine az ?_
  apply k21; clear k21; refine kp [1, 2, 3, 5, 7, 54, 55, 56, 57] ?_
  refine ab fun _ k23 => ?_
  refine aG ?_
  refine ab fun _ k24 => ?_
  have hrl := hm.rl s (by omega)
  refine af hP hN rfl ?_
  iterate 5 (refine aa rfl fun _ k0 => ?_; simp only [zO, zT, acs, reduceCtorEq, M, E, O, Z, Y, V, Mdl.av, Mdl.cs]; (repeat refine an ?_); (try refine .inl ?_); apply k0; clear k0; simp only [zP, E])
  refine ae ?_
  apply k24; clear k24; refine kp [1, 2, 3, 5, 7, 8, 9, 54, 55, 56, 57] ?_
  refine ab fun _ k25 => ?_
  refine af hP hN rfl ?_
  iterate 3 (refine aa rfl fun _ k0 => ?_; simp only [zO, zT, acs, reduceCtorEq, M, E, O, Z, Y, V, Mdl.av, Mdl.cs]; (repeat refine an ?_); (try refine .inl ?_); apply k0; clear k0; simp only [zP, E])
  refine ae ?_
  apply k25; clear k25; refine kp [1, 2, 3, 5, 7, 8, 9, 54, 55, 56, 57, 61, 62, 63] ?_
  refine aG ?_
  refine bB (fun n26 s26 => ∃ (j : Nat) (v : Nat), (j ≤ (x.m.nx.getD s []).length) ∧ n26 = (x.m.nx.getD s []).length - j ∧ s26 = { env := [(1, .one (.ptr 0 0 0 0)), (2, .one (.str [])), (3, .one (.int .i64 0)), (5, .one (.list .str (qs x.m.nx.length))), (7, .one (.row 2 v)), (8, .one (.int .i64 (s : Int))), (9, .one (.list (.int .i64) (x.m.nx.getD s []))), (54, .one (.list (.list (.int .i64)) x.m.nx)), (55, .one (.int .i64 (x.m.nx.length : Int))), (56, .one (.int .i64 (s : Int))), (57, .one (.bool (decide ((s : Int) < x.m.nx.length)))), (61, .one (.list (.int .i64) (x.m.nx.getD s []))), (62, .one (.int .i64 ((x.m.nx.getD s []).length : Int))), (63, .one (.int .i64 (j : Int)))], L := [.vars 29 [.str x.nm, .list .str x.ins, .list .str x.outs, .int .i64 x.m.inp, .int .i64 x.m.st, .list (.list (.int .i64)) x.m.nx, .list (.list (.int .i64)) x.m.ot], .dead u, .row .str 9 v (hdT x ++ dG x s ++ eL x s j)] }) ?_ ?_
  ·exact ⟨_, _, aK [1, 2, 3, 5, 7, 8, 9, 54, 55, 56, 57, 61, 62, 63], 0, v, Nat.zero_le _, rfl, by simp only [eL, List.range_zero, bC, List.append_nil]; rfl⟩
  rintro n26 s26 ⟨j, v, hj, rfl, rfl⟩
  refine ab fun _ k27 => ?_
  refine af hP hN rfl ?_
  (refine aa rfl fun _ k0 => ?_; simp only [zO, zT, acs, reduceCtorEq, M, E, O, Z, Y, V, Mdl.av, Mdl.cs]; (repeat refine an ?_); (try refine .inl ?_); apply k0; clear k0; simp only [zP, E])
  refine ae ?_
  apply k27; clear k27; refine kp [1, 2, 3, 5, 7, 8, 9, 54, 55, 56, 57, 61, 62, 63, 64] ?_
  refine ab fun _ k28 => ?_
  refine cd (fun hc29 => ?_) (fun hc29 => ?_)
  ·(try simp only [zB, reduceCtorEq] at hc29)
   refine az ?_
   apply k28; clear k28; refine kp [1, 2, 3, 5, 7, 8, 9, 54, 55, 56, 57, 61, 62, 63, 64] ?_
   refine ab fun _ k30 => ?_
   refine aG ?_
   refine ab fun _ k31 => ?_
   refine af hP hN rfl ?_
   iterate 5 (refine aa rfl fun _ k0 => ?_; simp only [zO, zT, acs, reduceCtorEq, M, E, O, Z, Y, V, Mdl.av, Mdl.cs]; (repeat refine an ?_); (try refine .inl ?_); apply k0; clear k0; simp only [zP, E])
   refine ae ?_
   apply k31; clear k31; refine kp [1, 2, 3, 5, 7, 8, 9, 10, 11, 54, 55, 56, 57, 61, 62, 63, 64] ?_
   have hrl := hm.rl s (by omega); have hql := hm.ql s (by omega)
   have hnr := hm.nr s j (by omega) (by omega); have hor := hm.or s j (by omega) (by omega); have hox := hv.ol s j (by omega) (by omega)
   have hq1 := dg (n := x.m.nx.length) (i := s) (by omega)
   have hq2 := dg (n := x.m.nx.length) (i := ((x.m.nx.getD s []).getD j 0).toNat) (by omega)
   have hl1 := gJ (n := s) (by omega); have hl2 := gJ (n := ((x.m.nx.getD s []).getD j 0).toNat) (by omega)
   have hl3 := gD hv.ai j; have hl4 := gD hv.ao ((x.m.ot.getD s []).getD j 0).toNat
   have hqn := cu x.m.nx.length
   have htl := i8 hv (k := s) (by omega)
   have hrn := lg x s j; have hh5 : (hdT x).length = 5 := rfl
   refine cC hP hN Tryd.mixed rfl ?_
   iterate 38 (refine aa rfl fun _ k0 => ?_; simp only [zO, zT, acs, reduceCtorEq, M, E, O, Z, Y, V, Mdl.av, Mdl.cs, hq1, hq2, ag, ah, aq, aM]; (repeat refine an ?_); (try refine .inl ?_); apply k0; clear k0; simp only [zP, E])
   refine ae ?_
   refine ⟨by kernel_rfl, ?_⟩
   apply k30; clear k30; refine kp [1, 2, 3, 5, 7, 8, 9, 10, 11, 54, 55, 56, 57, 61, 62, 63, 64] ?_
   refine af hP hN rfl ?_
   iterate 2 (refine aa rfl fun _ k0 => ?_; simp only [zO, zT, acs, reduceCtorEq, M, E, O, Z, Y, V, Mdl.av, Mdl.cs]; (repeat refine an ?_); (try refine .inl ?_); apply k0; clear k0; simp only [zP, E])
   refine ae ?_
   refine ⟨_, _, ?_, aK [1, 2, 3, 5, 7, 8, 9, 54, 55, 56, 57, 61, 62, 63], j + 1, v + 1, by omega, rfl, ?_⟩
   · omega
   · rw [oD, ← List.append_assoc]; rfl
  (try simp only [zB, reduceCtorEq] at hc29)
  refine bz ?_
  apply k23; clear k23; refine kp [1, 2, 3, 5, 7, 8, 9, 54, 55, 56, 57, 61, 62, 63, 64] ?_
  refine af hP hN rfl ?_
  iterate 2 (refine aa rfl fun _ k0 => ?_; simp only [zO, zT, acs, reduceCtorEq, M, E, O, Z, Y, V, Mdl.av, Mdl.cs]; (repeat refine an ?_); (try refine .inl ?_); apply k0; clear k0; simp only [zP, E])
  refine ae ?_
  refine ⟨_, _, ?_, aK [1, 2, 3, 5, 7, 54, 55, 56], s + 1, v, by omega, rfl, ?_⟩
  · omega
  · rw [i7, ← List.append_assoc, show (x.m.nx.getD s []).length = j by omega]; rfl
 (try simp only [zB, reduceCtorEq] at hc22)
 refine bz ?_
 apply k17; clear k17; refine kp [1, 2, 3, 5, 7, 54, 55, 56, 57] ?_
 refine ab fun _ k32 => ?_
 obtain rfl : s = x.m.nx.length := by omega
 refine jA 2 rfl ?_; simp only [aV, bC, zS, M, and_self, and_true, true_and, and_false, false_and, if_true, if_false, eq_self, reduceCtorEq, Nat.one_ne_zero, Nat.zero_ne_one]
 have hsl := qw hv; have htl := i8 hv (Nat.le_refl _); have hh5 : (hdT x).length = 5 := rfl
 refine af hP hN rfl ?_
 (refine aa rfl fun _ k0 => ?_; simp only [zO, zT, acs, reduceCtorEq, M, E, O, Z, Y, V, Mdl.av, Mdl.cs, ag, ah, aq]; (repeat refine an ?_); (try refine .inl ?_); apply k0; clear k0; simp only [zP, E])
 refine aa rfl fun _ k0 => ?_
 refine ax (h := aj (fC (hdT x ++ dG x x.m.nx.length) [10] (by rw [ag]; omega) (by omega))) rfl rfl (by first | exact rfl | (simp only [ev, zP, M, E]; exact rfl)) (by simp only [zV, acs, reduceCtorEq, M, E, O, Z, Y, V, Mdl.av, Mdl.cs, ag, ah, aq]) ?_
 apply k0; clear k0; simp only [zP, E]
 iterate 3 (refine aa rfl fun _ k0 => ?_; simp only [zO, zT, acs, reduceCtorEq, M, E, O, Z, Y, V, Mdl.av, Mdl.cs, ag, ah, aq]; (repeat refine an ?_); (try refine .inl ?_); apply k0; clear k0; simp only [zP, E])
 refine ae ?_
 apply k32; clear k32; refine kp [1, 2, 3, 5, 7, 54, 55, 56, 57] ?_
 refine ay ?_
 refine ⟨nr, _, rfl, ?_⟩; simp only [zF, zP, M, E, Mdl.av, Mdl.cs]
 refine VLE.of_eq ?_
 first | (rw [qq (by assumption)]; done) | (rw [lM (by assumption), ‹mvE x = 0›]; done)
theorem uq : bI Tryd.prog 11 [.one (.str gtA)] (.tup [dV.av, .one (.int .i64 0), .one (.int .i64 0)]) := by
  have h := cA gtA (by decide +kernel)
  rw [tF] at h
  exact h
theorem rX : bI Tryd.prog 9 [dV.av] (.tup [.one (.str gtA), .one (.int .i64 0)]) := by
  have h := qW dV (fun _ => by decide)
  rw [qd, nC] at h
  exact h
theorem ux : bI Tryd.prog 11 [.one (.str gtx)] (.tup [(PM gtx).1.av, .one (.int .i64 9), .one (.int .i64 12)]) := by
  have h := cA gtx (by decide +kernel)
  rw [congrArg Prod.fst qk, congrArg Prod.snd qk] at h
  exact h
theorem uE : bI Tryd.prog 11 [.one (.str gtB)] (.tup [(PM gtB).1.av, .one (.int .i64 9), .one (.int .i64 8)]) := by
  have h := cA gtB (by decide +kernel)
  rw [congrArg Prod.fst pU, congrArg Prod.snd pU] at h
  exact h
theorem uz : bI Tryd.prog 11 [.one (.str gtC)] (.tup [(PM gtC).1.av, .one (.int .i64 9), .one (.int .i64 7)]) := by
  have h := cA gtC (by decide +kernel)
  rw [congrArg Prod.fst qr, congrArg Prod.snd qr] at h
  exact h
theorem uF : bI Tryd.prog 11 [.one (.str [])] (.tup [(PM []).1.av, .one (.int .i64 1), .one (.int .i64 12)]) := by
  have h := cA [] (by decide +kernel)
  rw [congrArg Prod.fst qg, congrArg Prod.snd qg] at h
  exact h
theorem nM (a b : List Bs) : bI Tryd.prog 40 [.one (.list .str a), .one (.list .str b)] (.one (.bool (decide (a = b)))) := by
 refine aP Tryd.func40 rfl (by kernel_rfl) (Nat.le_of_ble_eq_true rfl) rfl fun C hP hN hB => ?_
 replace hN : C.N = 26 := hN
 simp only [aW, E]
 refine gl 0 rfl fun hf0 => ?_; simp only [lkp, if_true, if_false, reduceCtorEq, M, eq_self, Nat.one_ne_zero, Nat.zero_ne_one, kT, jN, jQ, Fit, and_true, implies_true, true_and] at hf0
 refine ab fun _ k1 => ?_
 refine af hP hN rfl ?_
 (refine aa rfl fun _ k0 => ?_; simp only [zO, zT, acs, reduceCtorEq, M, E, O, Z, Y, V]; (repeat refine an ?_); (try refine .inl ?_); apply k0; clear k0; simp only [zP, E])
 refine ae ?_
 apply k1; clear k1; refine kp [0, 1, 4] ?_
 refine ab fun _ k2 => ?_
 refine ab fun _ k3 => ?_
 refine af hP hN rfl ?_
 iterate 5 (refine aa rfl fun _ k0 => ?_; simp only [zO, zT, acs, reduceCtorEq, M, E, O, Z, Y, V]; (repeat refine an ?_); (try refine .inl ?_); apply k0; clear k0; simp only [zP, E])
 refine ae ?_
 apply k3; clear k3; refine kp [0, 1, 4, 10] ?_
 refine cd (fun hc4 => ?_) (fun hc4 => ?_)
 ·(try simp only [zB, reduceCtorEq] at hc4)
  have hle : ¬ a.length = b.length := by omega
  refine ab fun _ k5 => ?_
  refine af hP hN rfl ?_
  (refine aa rfl fun _ k0 => ?_; simp only [zO, zT, acs, reduceCtorEq, M, E, O, Z, Y, V]; (repeat refine an ?_); (try refine .inl ?_); apply k0; clear k0; simp only [zP, E])
  refine ae ?_
  apply k5; clear k5; refine kp [0, 1, 4, 10] ?_
  refine ay ?_
  refine ⟨nr, _, rfl, ?_⟩; simp only [zF, zP, M, E]
  refine VLE.of_eq ?_
  refine congrArg (fun b => AV.one (AC.bool b)) ?_
  symm
  first
  | exact decide_eq_false fun e => hle (by rw [e])
  | exact decide_eq_false fun e => hne (by rw [e])
  | exact decide_eq_true (nq hle fun q hq2 => hq q (by omega))
 (try simp only [zB, reduceCtorEq] at hc4)
 have hle : a.length = b.length := by omega
 refine az ?_
 apply k2; clear k2; refine kp [0, 1, 4, 10] ?_
 refine ab fun _ k6 => ?_
 refine ab fun _ k7 => ?_
 refine af hP hN rfl ?_
 (refine aa rfl fun _ k0 => ?_; simp only [zO, zT, acs, reduceCtorEq, M, E, O, Z, Y, V]; (repeat refine an ?_); (try refine .inl ?_); apply k0; clear k0; simp only [zP, E])
 refine ae ?_
 apply k7; clear k7; refine kp [0, 1, 4, 5, 10] ?_
 refine aG ?_
 refine bB (fun n8 s8 => ∃ (k : Nat), (k ≤ a.length) ∧ (∀ q, q < k → a.getD q [] = b.getD q []) ∧ n8 = a.length - k ∧ s8 = { env := [(0, .one (.list .str a)), (1, .one (.list .str b)), (4, .one (.bool false)), (5, .one (.int .i64 (k : Int)))], L := [] }) ?_ ?_
 ·exact ⟨_, _, aK [0, 1, 4, 5], 0, Nat.zero_le _, fun q hq => by omega, rfl, rfl⟩
 rintro n8 s8 ⟨k, hk, hq, rfl, rfl⟩
 refine ab fun _ k9 => ?_
 refine ab fun _ k10 => ?_
 refine af hP hN rfl ?_
 iterate 4 (refine aa rfl fun _ k0 => ?_; simp only [zO, zT, acs, reduceCtorEq, M, E, O, Z, Y, V]; (repeat refine an ?_); (try refine .inl ?_); apply k0; clear k0; simp only [zP, E])
 refine ae ?_
 apply k10; clear k10; refine kp [0, 1, 4, 5, 14] ?_
 refine cd (fun hc11 => ?_) (fun hc11 => ?_)
 ·(try simp only [zB, reduceCtorEq] at hc11)
  refine az ?_
  apply k9; clear k9; refine kp [0, 1, 4, 5, 14] ?_
  refine ab fun _ k12 => ?_
  refine aG ?_
  refine ab fun _ k13 => ?_
  refine cC hP hN Tryd.mixed rfl ?_
  iterate 9 (refine aa rfl fun _ k0 => ?_; simp only [zO, zT, acs, reduceCtorEq, M, E, O, Z, Y, V]; (repeat refine an ?_); (try refine .inl ?_); apply k0; clear k0; simp only [zP, E])
  refine ae ?_
  refine ⟨by kernel_rfl, ?_⟩
  apply k13; clear k13; refine kp [0, 1, 4, 5, 14, 25] ?_
  refine cd (fun hc14 => ?_) (fun hc14 => ?_)
  ·(try simp only [zB, reduceCtorEq] at hc14)
   have hne : a.getD k [] ≠ b.getD k [] := by simpa using hc14
   refine ab fun _ k15 => ?_
   refine af hP hN rfl ?_
   (refine aa rfl fun _ k0 => ?_; simp only [zO, zT, acs, reduceCtorEq, M, E, O, Z, Y, V]; (repeat refine an ?_); (try refine .inl ?_); apply k0; clear k0; simp only [zP, E])
   refine ae ?_
   apply k15; clear k15; refine kp [0, 1, 4, 5, 14, 25] ?_
   refine ay ?_
   refine ⟨nr, _, rfl, ?_⟩; simp only [zF, zP, M, E]
   refine VLE.of_eq ?_
   refine congrArg (fun b => AV.one (AC.bool b)) ?_
   symm
   first
   | exact decide_eq_false fun e => hle (by rw [e])
   | exact decide_eq_false fun e => hne (by rw [e])
   | exact decide_eq_true (nq hle fun q hq2 => hq q (by omega))
  (try simp only [zB, reduceCtorEq] at hc14)
  have heq : a.getD k [] = b.getD k [] := by simpa using hc14
  refine az ?_
  apply k12; clear k12; refine kp [0, 1, 4, 5, 14, 25] ?_
  refine af hP hN rfl ?_
  iterate 3 (refine aa rfl fun _ k0 => ?_; simp only [zO, zT, acs, reduceCtorEq, M, E, O, Z, Y, V]; (repeat refine an ?_); (try refine .inl ?_); apply k0; clear k0; simp only [zP, E])
  refine ae ?_
  refine ⟨_, _, ?_, aK [0, 1, 4, 5], k + 1, by omega, fun q hq2 => ?_, rfl, rfl⟩
  · omega
  · by_cases e : q = k
    · rw [e]; exact heq
    · exact hq q (by omega)
 (try simp only [zB, reduceCtorEq] at hc11)
 refine bz ?_
 apply k6; clear k6; refine kp [0, 1, 4, 5, 14] ?_
 refine ab fun _ k16 => ?_
 refine af hP hN rfl ?_
 (refine aa rfl fun _ k0 => ?_; simp only [zO, zT, acs, reduceCtorEq, M, E, O, Z, Y, V]; (repeat refine an ?_); (try refine .inl ?_); apply k0; clear k0; simp only [zP, E])
 refine ae ?_
 apply k16; clear k16; refine kp [0, 1, 4, 5, 14] ?_
 refine ay ?_
 refine ⟨nr, _, rfl, ?_⟩; simp only [zF, zP, M, E]
 refine VLE.of_eq ?_
 refine congrArg (fun b => AV.one (AC.bool b)) ?_
 symm
 first
 | exact decide_eq_false fun e => hle (by rw [e])
 | exact decide_eq_false fun e => hne (by rw [e])
 | exact decide_eq_true (nq hle fun q hq2 => hq q (by omega))
theorem mu (a b : List Bs) : bI Tryd.prog 25 [.agg [.list .str a], .agg [.list .str b]] (.one (.bool (decide (a = b)))) := by
 refine aP Tryd.func25 rfl (by kernel_rfl) (Nat.le_of_ble_eq_true rfl) rfl fun C hP hN hB => ?_
 replace hN : C.N = 10 := hN
 simp only [aW, E]
 refine ab fun _ k1 => ?_
 refine af hP hN rfl ?_
 iterate 3 (refine aa rfl fun _ k0 => ?_; simp only [zO, zT, acs, reduceCtorEq, M, E, O, Z, Y, V]; (repeat refine an ?_); (try refine .inl ?_); apply k0; clear k0; simp only [zP, E])
 refine ae ?_
 apply k1; clear k1; refine kp [0, 1, 2, 3, 4] ?_
 refine ab fun _ k2 => ?_
 refine af hP hN rfl ?_
 iterate 4 (refine aa rfl fun _ k0 => ?_; simp only [zO, zT, acs, reduceCtorEq, M, E, O, Z, Y, V]; (repeat refine an ?_); (try refine .inl ?_); apply k0; clear k0; simp only [zP, E])
 refine aa rfl fun _ k0 => ?_
 refine ax (h := aj (nM a b)) rfl rfl (by first | exact rfl | (simp only [ev, zP, M, E]; exact rfl)) (by simp only [zV, acs, reduceCtorEq, M, E, O, Z, Y, V]) ?_
 apply k0; clear k0; simp only [zP, E]
 (refine aa rfl fun _ k0 => ?_; simp only [zO, zT, acs, reduceCtorEq, M, E, O, Z, Y, V]; (repeat refine an ?_); (try refine .inl ?_); apply k0; clear k0; simp only [zP, E])
 refine ae ?_
 apply k2; clear k2; refine kp [0, 1, 2, 3, 4] ?_
 refine ay ?_
 refine ⟨nr, _, rfl, ?_⟩; simp only [zF, zP, M, E]
 refine VLE.of_eq ?_
 rfl
theorem tS (xs ys : List Int) : bI Tryd.prog 53 [.one (.list (.int .i64) xs), .one (.list (.int .i64) ys)] (.one (.bool (decide (xs = ys)))) := by
 refine aP Tryd.func53 rfl (by kernel_rfl) (Nat.le_of_ble_eq_true rfl) rfl fun C hP hN hB => ?_
 replace hN : C.N = 26 := hN
 simp only [aW, E]
 refine gl 0 rfl fun hf0 => ?_; simp only [lkp, if_true, if_false, reduceCtorEq, M, eq_self, Nat.one_ne_zero, Nat.zero_ne_one, kT, jN, jQ, Fit, and_true, implies_true, true_and] at hf0
 refine ab fun _ k1 => ?_
 refine af hP hN rfl ?_
 (refine aa rfl fun _ k0 => ?_; simp only [zO, zT, acs, reduceCtorEq, M, E, O, Z, Y, V]; (repeat refine an ?_); (try refine .inl ?_); apply k0; clear k0; simp only [zP, E])
 refine ae ?_
 apply k1; clear k1; refine kp [0, 1, 4] ?_
 refine ab fun _ k2 => ?_
 refine ab fun _ k3 => ?_
 refine af hP hN rfl ?_
 iterate 5 (refine aa rfl fun _ k0 => ?_; simp only [zO, zT, acs, reduceCtorEq, M, E, O, Z, Y, V]; (repeat refine an ?_); (try refine .inl ?_); apply k0; clear k0; simp only [zP, E])
 refine ae ?_
 apply k3; clear k3; refine kp [0, 1, 4, 10] ?_
 refine cd (fun hc4 => ?_) (fun hc4 => ?_)
 ·(try simp only [zB, reduceCtorEq] at hc4)
  refine ab fun _ k5 => ?_
  refine af hP hN rfl ?_
  (refine aa rfl fun _ k0 => ?_; simp only [zO, zT, acs, reduceCtorEq, M, E, O, Z, Y, V]; (repeat refine an ?_); (try refine .inl ?_); apply k0; clear k0; simp only [zP, E])
  refine ae ?_
  apply k5; clear k5; refine kp [0, 1, 4, 10] ?_
  refine ay ?_
  refine ⟨nr, _, rfl, ?_⟩; simp only [zF, zP, M, E]
  refine VLE.of_eq ?_
  first
  | (refine dq ?_; rintro rfl; first | exact absurd rfl ‹¬ _› | omega)
  | (refine dL ?_; have hk1 : k = xs.length := by omega
     have hk2 : k = ys.length := by omega
     rw [hk1, aD, ← hk1, hk2, aD] at hT; exact hT)
 (try simp only [zB, reduceCtorEq] at hc4)
 refine az ?_
 apply k2; clear k2; refine kp [0, 1, 4, 10] ?_
 refine ab fun _ k6 => ?_
 refine ab fun _ k7 => ?_
 refine af hP hN rfl ?_
 (refine aa rfl fun _ k0 => ?_; simp only [zO, zT, acs, reduceCtorEq, M, E, O, Z, Y, V]; (repeat refine an ?_); (try refine .inl ?_); apply k0; clear k0; simp only [zP, E])
 refine ae ?_
 apply k7; clear k7; refine kp [0, 1, 4, 5, 10] ?_
 refine aG ?_
 refine bB (fun n8 s8 => ∃ (k : Nat), (k ≤ xs.length) ∧ (xs.take k = ys.take k) ∧ n8 = xs.length - k ∧ s8 = { env := [(0, .one (.list (.int .i64) xs)), (1, .one (.list (.int .i64) ys)), (5, .one (.int .i64 (k : Int)))], L := [] }) ?_ ?_
 ·exact ⟨_, _, aK [0, 1, 5], 0, Nat.zero_le _, rfl, rfl, rfl⟩
 rintro n8 s8 ⟨k, hk, hT, rfl, rfl⟩
 refine ab fun _ k9 => ?_
 refine ab fun _ k10 => ?_
 refine af hP hN rfl ?_
 iterate 4 (refine aa rfl fun _ k0 => ?_; simp only [zO, zT, acs, reduceCtorEq, M, E, O, Z, Y, V]; (repeat refine an ?_); (try refine .inl ?_); apply k0; clear k0; simp only [zP, E])
 refine ae ?_
 apply k10; clear k10; refine kp [0, 1, 5, 14] ?_
 refine cd (fun hc11 => ?_) (fun hc11 => ?_)
 ·(try simp only [zB, reduceCtorEq] at hc11)
  refine az ?_
  apply k9; clear k9; refine kp [0, 1, 5, 14] ?_
  refine ab fun _ k12 => ?_
  refine aG ?_
  refine ab fun _ k13 => ?_
  refine cC hP hN Tryd.mixed rfl ?_
  iterate 9 (refine aa rfl fun _ k0 => ?_; simp only [zO, zT, acs, reduceCtorEq, M, E, O, Z, Y, V]; (repeat refine an ?_); (try refine .inl ?_); apply k0; clear k0; simp only [zP, E])
  refine ae ?_
  refine ⟨by kernel_rfl, ?_⟩
  apply k13; clear k13; refine kp [0, 1, 5, 14, 25] ?_
  refine cd (fun hc14 => ?_) (fun hc14 => ?_)
  ·(try simp only [zB, reduceCtorEq] at hc14)
   refine ab fun _ k15 => ?_
   refine af hP hN rfl ?_
   (refine aa rfl fun _ k0 => ?_; simp only [zO, zT, acs, reduceCtorEq, M, E, O, Z, Y, V]; (repeat refine an ?_); (try refine .inl ?_); apply k0; clear k0; simp only [zP, E])
   refine ae ?_
   apply k15; clear k15; refine kp [0, 1, 4, 5, 14, 25] ?_
   refine ay ?_
   refine ⟨nr, _, rfl, ?_⟩; simp only [zF, zP, M, E]
   refine VLE.of_eq ?_
   first
   | (refine dq ?_; rintro rfl; first | exact absurd rfl ‹¬ _› | omega)
   | (refine dL ?_; have hk1 : k = xs.length := by omega
      have hk2 : k = ys.length := by omega
      rw [hk1, aD, ← hk1, hk2, aD] at hT; exact hT)
  (try simp only [zB, reduceCtorEq] at hc14)
  refine az ?_
  apply k12; clear k12; refine kp [0, 1, 5, 14, 25] ?_
  refine af hP hN rfl ?_
  iterate 3 (refine aa rfl fun _ k0 => ?_; simp only [zO, zT, acs, reduceCtorEq, M, E, O, Z, Y, V]; (repeat refine an ?_); (try refine .inl ?_); apply k0; clear k0; simp only [zP, E])
  refine ae ?_
  refine ⟨_, _, ?_, aK [0, 1, 5], k + 1, by omega, gP (d := 0) hT (by omega) (by omega) ?_, rfl, rfl⟩
  · omega
  · first | assumption | omega
 (try simp only [zB, reduceCtorEq] at hc11)
 refine bz ?_
 apply k6; clear k6; refine kp [0, 1, 5, 14] ?_
 refine ab fun _ k16 => ?_
 refine af hP hN rfl ?_
 (refine aa rfl fun _ k0 => ?_; simp only [zO, zT, acs, reduceCtorEq, M, E, O, Z, Y, V]; (repeat refine an ?_); (try refine .inl ?_); apply k0; clear k0; simp only [zP, E])
 refine ae ?_
 apply k16; clear k16; refine kp [0, 1, 4, 5, 14] ?_
 refine ay ?_
 refine ⟨nr, _, rfl, ?_⟩; simp only [zF, zP, M, E]
 refine VLE.of_eq ?_
 first
 | (refine dq ?_; rintro rfl; first | exact absurd rfl ‹¬ _› | omega)
 | (refine dL ?_; have hk1 : k = xs.length := by omega
    have hk2 : k = ys.length := by omega
    rw [hk1, aD, ← hk1, hk2, aD] at hT; exact hT)
theorem og (xs ys : List (List Int)) : bI Tryd.prog 41 [.one (.list (.list (.int .i64)) xs), .one (.list (.list (.int .i64)) ys)] (.one (.bool (decide (xs = ys)))) := by
 refine aP Tryd.func41 rfl (by kernel_rfl) (Nat.le_of_ble_eq_true rfl) rfl fun C hP hN hB => ?_
 replace hN : C.N = 27 := hN
 simp only [aW, E]
 refine gl 0 rfl fun hf0 => ?_; simp only [lkp, if_true, if_false, reduceCtorEq, M, eq_self, Nat.one_ne_zero, Nat.zero_ne_one, kT, jN, jQ, Fit, and_true, implies_true, true_and] at hf0
 refine ab fun _ k1 => ?_
 refine af hP hN rfl ?_
 (refine aa rfl fun _ k0 => ?_; simp only [zO, zT, acs, reduceCtorEq, M, E, O, Z, Y, V]; (repeat refine an ?_); (try refine .inl ?_); apply k0; clear k0; simp only [zP, E])
 refine ae ?_
 apply k1; clear k1; refine kp [0, 1, 4] ?_
 refine ab fun _ k2 => ?_
 refine ab fun _ k3 => ?_
 refine af hP hN rfl ?_
 iterate 5 (refine aa rfl fun _ k0 => ?_; simp only [zO, zT, acs, reduceCtorEq, M, E, O, Z, Y, V]; (repeat refine an ?_); (try refine .inl ?_); apply k0; clear k0; simp only [zP, E])
 refine ae ?_
 apply k3; clear k3; refine kp [0, 1, 4, 10] ?_
 refine cd (fun hc4 => ?_) (fun hc4 => ?_)
 ·(try simp only [zB, reduceCtorEq] at hc4)
  refine ab fun _ k5 => ?_
  refine af hP hN rfl ?_
  (refine aa rfl fun _ k0 => ?_; simp only [zO, zT, acs, reduceCtorEq, M, E, O, Z, Y, V]; (repeat refine an ?_); (try refine .inl ?_); apply k0; clear k0; simp only [zP, E])
  refine ae ?_
  apply k5; clear k5; refine kp [0, 1, 4, 10] ?_
  refine ay ?_
  refine ⟨nr, _, rfl, ?_⟩; simp only [zF, zP, M, E]
  refine VLE.of_eq ?_
  first
  | (refine dq ?_; rintro rfl; first | exact absurd rfl ‹¬ _› | omega)
  | (refine dL ?_; have hk1 : k = xs.length := by omega
     have hk2 : k = ys.length := by omega
     rw [hk1, aD, ← hk1, hk2, aD] at hT; exact hT)
 (try simp only [zB, reduceCtorEq] at hc4)
 refine az ?_
 apply k2; clear k2; refine kp [0, 1, 4, 10] ?_
 refine ab fun _ k6 => ?_
 refine ab fun _ k7 => ?_
 refine af hP hN rfl ?_
 (refine aa rfl fun _ k0 => ?_; simp only [zO, zT, acs, reduceCtorEq, M, E, O, Z, Y, V]; (repeat refine an ?_); (try refine .inl ?_); apply k0; clear k0; simp only [zP, E])
 refine ae ?_
 apply k7; clear k7; refine kp [0, 1, 4, 5, 10] ?_
 refine aG ?_
 refine bB (fun n8 s8 => ∃ (k : Nat), (k ≤ xs.length) ∧ (xs.take k = ys.take k) ∧ n8 = xs.length - k ∧ s8 = { env := [(0, .one (.list (.list (.int .i64)) xs)), (1, .one (.list (.list (.int .i64)) ys)), (5, .one (.int .i64 (k : Int)))], L := [] }) ?_ ?_
 ·exact ⟨_, _, aK [0, 1, 5], 0, Nat.zero_le _, rfl, rfl, rfl⟩
 rintro n8 s8 ⟨k, hk, hT, rfl, rfl⟩
 refine ab fun _ k9 => ?_
 refine ab fun _ k10 => ?_
 refine af hP hN rfl ?_
 iterate 4 (refine aa rfl fun _ k0 => ?_; simp only [zO, zT, acs, reduceCtorEq, M, E, O, Z, Y, V]; (repeat refine an ?_); (try refine .inl ?_); apply k0; clear k0; simp only [zP, E])
 refine ae ?_
 apply k10; clear k10; refine kp [0, 1, 5, 14] ?_
 refine cd (fun hc11 => ?_) (fun hc11 => ?_)
 ·(try simp only [zB, reduceCtorEq] at hc11)
  refine az ?_
  apply k9; clear k9; refine kp [0, 1, 5, 14] ?_
  refine ab fun _ k12 => ?_
  refine aG ?_
  refine ab fun _ k13 => ?_
  refine cC hP hN Tryd.mixed rfl ?_
  iterate 8 (refine aa rfl fun _ k0 => ?_; simp only [zO, zT, acs, reduceCtorEq, M, E, O, Z, Y, V]; (repeat refine an ?_); (try refine .inl ?_); apply k0; clear k0; simp only [zP, E])
  refine aa rfl fun _ k0 => ?_
  refine ax (h := aj (tS (xs.getD k []) (ys.getD k []))) rfl rfl (by first | exact rfl | (simp only [ev, zP, M, E]; exact rfl)) (by simp only [zV, acs, reduceCtorEq, M, E, O, Z, Y, V]) ?_
  apply k0; clear k0; simp only [zP, E]
  (refine aa rfl fun _ k0 => ?_; simp only [zO, zT, acs, reduceCtorEq, M, E, O, Z, Y, V]; (repeat refine an ?_); (try refine .inl ?_); apply k0; clear k0; simp only [zP, E])
  refine ae ?_
  refine ⟨by kernel_rfl, ?_⟩
  apply k13; clear k13; refine kp [0, 1, 5, 14, 26] ?_
  refine cd (fun hc14 => ?_) (fun hc14 => ?_)
  ·(try simp only [zB, reduceCtorEq] at hc14)
   refine ab fun _ k15 => ?_
   refine af hP hN rfl ?_
   (refine aa rfl fun _ k0 => ?_; simp only [zO, zT, acs, reduceCtorEq, M, E, O, Z, Y, V]; (repeat refine an ?_); (try refine .inl ?_); apply k0; clear k0; simp only [zP, E])
   refine ae ?_
   apply k15; clear k15; refine kp [0, 1, 4, 5, 14, 26] ?_
   refine ay ?_
   refine ⟨nr, _, rfl, ?_⟩; simp only [zF, zP, M, E]
   refine VLE.of_eq ?_
   first
   | (refine dq ?_; rintro rfl; first | exact absurd rfl ‹¬ _› | omega)
   | (refine dL ?_; have hk1 : k = xs.length := by omega
      have hk2 : k = ys.length := by omega
      rw [hk1, aD, ← hk1, hk2, aD] at hT; exact hT)
  (try simp only [zB, reduceCtorEq] at hc14)
  refine az ?_
  apply k12; clear k12; refine kp [0, 1, 5, 14, 26] ?_
  refine af hP hN rfl ?_
  iterate 3 (refine aa rfl fun _ k0 => ?_; simp only [zO, zT, acs, reduceCtorEq, M, E, O, Z, Y, V]; (repeat refine an ?_); (try refine .inl ?_); apply k0; clear k0; simp only [zP, E])
  refine ae ?_
  refine ⟨_, _, ?_, aK [0, 1, 5], k + 1, by omega, gP (d := []) hT (by omega) (by omega) ?_, rfl, rfl⟩
  · omega
  · first | assumption | omega
 (try simp only [zB, reduceCtorEq] at hc11)
 refine bz ?_
 apply k6; clear k6; refine kp [0, 1, 5, 14] ?_
 refine ab fun _ k16 => ?_
 refine af hP hN rfl ?_
 (refine aa rfl fun _ k0 => ?_; simp only [zO, zT, acs, reduceCtorEq, M, E, O, Z, Y, V]; (repeat refine an ?_); (try refine .inl ?_); apply k0; clear k0; simp only [zP, E])
 refine ae ?_
 apply k16; clear k16; refine kp [0, 1, 4, 5, 14] ?_
 refine ay ?_
 refine ⟨nr, _, rfl, ?_⟩; simp only [zF, zP, M, E]
 refine VLE.of_eq ?_
 first
 | (refine dq ?_; rintro rfl; first | exact absurd rfl ‹¬ _› | omega)
 | (refine dL ?_; have hk1 : k = xs.length := by omega
    have hk2 : k = ys.length := by omega
    rw [hk1, aD, ← hk1, hk2, aD] at hT; exact hT)
theorem sw (m n : Mly) : bI Tryd.prog 26 [m.av, n.av] (.one (.bool (iH m n))) := by
 refine aP Tryd.func26 rfl (by kernel_rfl) (Nat.le_of_ble_eq_true rfl) rfl fun C hP hN hB => ?_
 replace hN : C.N = 31 := hN
 simp only [aW, E]
 refine ab fun _ k1 => ?_
 refine af hP hN rfl ?_
 iterate 3 (refine aa rfl fun _ k0 => ?_; simp only [zO, zT, acs, reduceCtorEq, M, E, O, Z, Y, V, Mly.av]; (repeat refine an ?_); (try refine .inl ?_); apply k0; clear k0; simp only [zP, E])
 refine ae ?_
 apply k1; clear k1; refine kp [0, 1, 2, 3, 4] ?_
 refine ab fun _ k2 => ?_
 refine af hP hN rfl ?_
 iterate 6 (refine aa rfl fun _ k0 => ?_; simp only [zO, zT, acs, reduceCtorEq, M, E, O, Z, Y, V, Mly.av]; (repeat refine an ?_); (try refine .inl ?_); apply k0; clear k0; simp only [zP, E])
 refine' ar (want := true) 5 rfl (m := 10) (by simp only [zP, M, E]; exact rfl) (by kernel_rfl) rfl rfl rfl rfl rfl (fun hg3 => ?a3) ?b3 ?c3
 case a3 =>
  have hq3 := hg3; (try simp only [zB, reduceCtorEq] at hg3); simp only [zE]
  iterate 5 (refine aJ rfl fun _ k0 => ?_; simp only [zO, zT, acs, reduceCtorEq, M, E, O, Z, Y, V, Mly.av]; (repeat refine an ?_); (try refine .inl ?_); apply k0; clear k0; simp only [zP, E])
  (refine aa rfl fun _ k0 => ?_; simp only [zO, zT, acs, reduceCtorEq, M, E, O, Z, Y, V, Mly.av]; (repeat refine an ?_); (try refine .inl ?_); apply k0; clear k0; simp only [zP, E])
  refine ae ?_
  refine ⟨by simp only [zP, M, E]; exact rfl, rfl, ?_, rfl⟩; (repeat refine au rfl ?_); exact aH (by exact rfl) hq3
 case b3 => exact aU
 simp only [aA, aw]
 (refine aa rfl fun _ k0 => ?_; simp only [zO, zT, acs, reduceCtorEq, M, E, O, Z, Y, V, Mly.av]; (repeat refine an ?_); (try refine .inl ?_); apply k0; clear k0; simp only [zP, E])
 refine' ar (want := true) 5 rfl (m := 17) (by simp only [zP, M, E]; exact rfl) (by kernel_rfl) rfl rfl rfl rfl rfl (fun hg4 => ?a4) ?b4 ?c4
 case a4 =>
  have hq4 := hg4; (try simp only [zB, reduceCtorEq] at hg4); simp only [zE]
  iterate 4 (refine aJ rfl fun _ k0 => ?_; simp only [zO, zT, acs, reduceCtorEq, M, E, O, Z, Y, V, Mly.av]; (repeat refine an ?_); (try refine .inl ?_); apply k0; clear k0; simp only [zP, E])
  refine aJ rfl fun _ k0 => ?_
  refine ax (h := aj (og m.nx n.nx)) rfl rfl (by first | exact rfl | (simp only [ev, zP, M, E]; exact rfl)) (by simp only [zV, acs, reduceCtorEq, M, E, O, Z, Y, V, Mly.av]) ?_
  apply k0; clear k0; simp only [zP, E]
  (refine aa rfl fun _ k0 => ?_; simp only [zO, zT, acs, reduceCtorEq, M, E, O, Z, Y, V, Mly.av]; (repeat refine an ?_); (try refine .inl ?_); apply k0; clear k0; simp only [zP, E])
  refine ae ?_
  refine ⟨by simp only [zP, M, E]; exact rfl, rfl, ?_, rfl⟩; (repeat refine au rfl ?_); exact aH (by exact rfl) hq4
 case b4 => exact aU
 simp only [aA, aw]
 (refine aa rfl fun _ k0 => ?_; simp only [zO, zT, acs, reduceCtorEq, M, E, O, Z, Y, V, Mly.av]; (repeat refine an ?_); (try refine .inl ?_); apply k0; clear k0; simp only [zP, E])
 refine' ar (want := true) 5 rfl (m := 24) (by simp only [zP, M, E]; exact rfl) (by kernel_rfl) rfl rfl rfl rfl rfl (fun hg5 => ?a5) ?b5 ?c5
 case a5 =>
  have hq5 := hg5; (try simp only [zB, reduceCtorEq] at hg5); simp only [zE]
  iterate 4 (refine aJ rfl fun _ k0 => ?_; simp only [zO, zT, acs, reduceCtorEq, M, E, O, Z, Y, V, Mly.av]; (repeat refine an ?_); (try refine .inl ?_); apply k0; clear k0; simp only [zP, E])
  refine aJ rfl fun _ k0 => ?_
  refine ax (h := aj (og m.ot n.ot)) rfl rfl (by first | exact rfl | (simp only [ev, zP, M, E]; exact rfl)) (by simp only [zV, acs, reduceCtorEq, M, E, O, Z, Y, V, Mly.av]) ?_
  apply k0; clear k0; simp only [zP, E]
  (refine aa rfl fun _ k0 => ?_; simp only [zO, zT, acs, reduceCtorEq, M, E, O, Z, Y, V, Mly.av]; (repeat refine an ?_); (try refine .inl ?_); apply k0; clear k0; simp only [zP, E])
  refine ae ?_
  refine ⟨by simp only [zP, M, E]; exact rfl, rfl, ?_, rfl⟩; (repeat refine au rfl ?_); exact aH (by exact rfl) hq5
 case b5 => exact aU
 simp only [aA, aw]
 (refine aa rfl fun _ k0 => ?_; simp only [zO, zT, acs, reduceCtorEq, M, E, O, Z, Y, V, Mly.av]; (repeat refine an ?_); (try refine .inl ?_); apply k0; clear k0; simp only [zP, E])
 refine ae ?_
 apply k2; clear k2; refine kp [0, 1, 2, 3, 4] ?_
 refine ay ?_
 refine ⟨nr, _, rfl, ?_⟩; simp only [zF, zP, M, E, Mly.av]
 refine VLE.of_eq ?_
 rfl
theorem pD (x y : Mdl) : bI Tryd.prog 12 [x.av, y.av] (.one (.bool (decide (x.nm = y.nm) && decide (x.ins = y.ins) && decide (x.outs = y.outs) && iH x.m y.m))) := by
 refine aP Tryd.func12 rfl (by kernel_rfl) (Nat.le_of_ble_eq_true rfl) rfl fun C hP hN hB => ?_
 replace hN : C.N = 31 := hN
 simp only [aW, E]
 refine ab fun _ k1 => ?_
 refine af hP hN rfl ?_
 iterate 3 (refine aa rfl fun _ k0 => ?_; simp only [zO, zT, acs, reduceCtorEq, M, E, O, Z, Y, V, Mdl.av, Mdl.cs]; (repeat refine an ?_); (try refine .inl ?_); apply k0; clear k0; simp only [zP, E])
 refine ae ?_
 apply k1; clear k1; refine kp [0, 1, 2, 3, 4] ?_
 refine ab fun _ k2 => ?_
 refine af hP hN rfl ?_
 iterate 6 (refine aa rfl fun _ k0 => ?_; simp only [zO, zT, acs, reduceCtorEq, M, E, O, Z, Y, V, Mdl.av, Mdl.cs]; (repeat refine an ?_); (try refine .inl ?_); apply k0; clear k0; simp only [zP, E])
 refine' ar (want := true) 5 rfl (m := 10) (by simp only [zP, M, E]; exact rfl) (by kernel_rfl) rfl rfl rfl rfl rfl (fun hg3 => ?a3) ?b3 ?c3
 case a3 =>
  have hq3 := hg3; (try simp only [zB, reduceCtorEq] at hg3); simp only [zE]
  iterate 4 (refine aJ rfl fun _ k0 => ?_; simp only [zO, zT, acs, reduceCtorEq, M, E, O, Z, Y, V, Mdl.av, Mdl.cs]; (repeat refine an ?_); (try refine .inl ?_); apply k0; clear k0; simp only [zP, E])
  refine aJ rfl fun _ k0 => ?_
  refine ax (h := aj (mu x.ins y.ins)) rfl rfl (by first | exact rfl | (simp only [ev, zP, M, E]; exact rfl)) (by simp only [zV, acs, reduceCtorEq, M, E, O, Z, Y, V, Mdl.av, Mdl.cs]) ?_
  apply k0; clear k0; simp only [zP, E]
  (refine aa rfl fun _ k0 => ?_; simp only [zO, zT, acs, reduceCtorEq, M, E, O, Z, Y, V, Mdl.av, Mdl.cs]; (repeat refine an ?_); (try refine .inl ?_); apply k0; clear k0; simp only [zP, E])
  refine ae ?_
  refine ⟨by simp only [zP, M, E]; exact rfl, rfl, ?_, rfl⟩; (repeat refine au rfl ?_); exact aH (by exact rfl) hq3
 case b3 => exact aU
 simp only [aA, aw]
 (refine aa rfl fun _ k0 => ?_; simp only [zO, zT, acs, reduceCtorEq, M, E, O, Z, Y, V, Mdl.av, Mdl.cs]; (repeat refine an ?_); (try refine .inl ?_); apply k0; clear k0; simp only [zP, E])
 refine' ar (want := true) 5 rfl (m := 17) (by simp only [zP, M, E]; exact rfl) (by kernel_rfl) rfl rfl rfl rfl rfl (fun hg4 => ?a4) ?b4 ?c4
 case a4 =>
  have hq4 := hg4; (try simp only [zB, reduceCtorEq] at hg4); simp only [zE]
  iterate 4 (refine aJ rfl fun _ k0 => ?_; simp only [zO, zT, acs, reduceCtorEq, M, E, O, Z, Y, V, Mdl.av, Mdl.cs]; (repeat refine an ?_); (try refine .inl ?_); apply k0; clear k0; simp only [zP, E])
  refine aJ rfl fun _ k0 => ?_
  refine ax (h := aj (mu x.outs y.outs)) rfl rfl (by first | exact rfl | (simp only [ev, zP, M, E]; exact rfl)) (by simp only [zV, acs, reduceCtorEq, M, E, O, Z, Y, V, Mdl.av, Mdl.cs]) ?_
  apply k0; clear k0; simp only [zP, E]
  (refine aa rfl fun _ k0 => ?_; simp only [zO, zT, acs, reduceCtorEq, M, E, O, Z, Y, V, Mdl.av, Mdl.cs]; (repeat refine an ?_); (try refine .inl ?_); apply k0; clear k0; simp only [zP, E])
  refine ae ?_
  refine ⟨by simp only [zP, M, E]; exact rfl, rfl, ?_, rfl⟩; (repeat refine au rfl ?_); exact aH (by exact rfl) hq4
 case b4 => exact aU
 simp only [aA, aw]
 (refine aa rfl fun _ k0 => ?_; simp only [zO, zT, acs, reduceCtorEq, M, E, O, Z, Y, V, Mdl.av, Mdl.cs]; (repeat refine an ?_); (try refine .inl ?_); apply k0; clear k0; simp only [zP, E])
 refine' ar (want := true) 5 rfl (m := 24) (by simp only [zP, M, E]; exact rfl) (by kernel_rfl) rfl rfl rfl rfl rfl (fun hg5 => ?a5) ?b5 ?c5
 case a5 =>
  have hq5 := hg5; (try simp only [zB, reduceCtorEq] at hg5); simp only [zE]
  iterate 4 (refine aJ rfl fun _ k0 => ?_; simp only [zO, zT, acs, reduceCtorEq, M, E, O, Z, Y, V, Mdl.av, Mdl.cs]; (repeat refine an ?_); (try refine .inl ?_); apply k0; clear k0; simp only [zP, E])
  refine aJ rfl fun _ k0 => ?_
  refine ax (h := aj (sw x.m y.m)) rfl rfl (by first | exact rfl | (simp only [ev, zP, M, E]; exact rfl)) (by simp only [zV, acs, reduceCtorEq, M, E, O, Z, Y, V, Mdl.av, Mdl.cs]) ?_
  apply k0; clear k0; simp only [zP, E]
  (refine aa rfl fun _ k0 => ?_; simp only [zO, zT, acs, reduceCtorEq, M, E, O, Z, Y, V, Mdl.av, Mdl.cs]; (repeat refine an ?_); (try refine .inl ?_); apply k0; clear k0; simp only [zP, E])
  refine ae ?_
  refine ⟨by simp only [zP, M, E]; exact rfl, rfl, ?_, rfl⟩; (repeat refine au rfl ?_); exact aH (by exact rfl) hq5
 case b5 => exact aU
 simp only [aA, aw]
 (refine aa rfl fun _ k0 => ?_; simp only [zO, zT, acs, reduceCtorEq, M, E, O, Z, Y, V, Mdl.av, Mdl.cs]; (repeat refine an ?_); (try refine .inl ?_); apply k0; clear k0; simp only [zP, E])
 refine ae ?_
 apply k2; clear k2; refine kp [0, 1, 2, 3, 4] ?_
 refine ay ?_
 refine ⟨nr, _, rfl, ?_⟩; simp only [zF, zP, M, E, Mdl.av, Mdl.cs]
 refine VLE.of_eq ?_
 rfl
theorem dx (x y : Mdl) : bI Tryd.prog 12 [x.av, y.av] (.one (.bool (nu x y))) := pD x y
set_option maxHeartbeats 2000000 in
theorem dJ  : bI Tryd.prog 8 [] (.one (.bool true)) := by
 refine aP Tryd.func8 rfl (by kernel_rfl) (Nat.le_of_ble_eq_true rfl) rfl fun C hP hN hB => ?_
 replace hN : C.N = 99 := hN
 simp only [aW, E]
 refine ab fun _ k1 => ?_
 refine af hP hN rfl ?_
 (refine aa rfl fun _ k0 => ?_; simp only [zO, zT, acs, reduceCtorEq, M, E, O, Z, Y, V, Mdl.av, Mdl.cs]; (repeat refine an ?_); (try refine .inl ?_); apply k0; clear k0; simp only [zP, E])
 refine ae ?_
 apply k1; clear k1; refine kp [0] ?_
 refine ab fun _ k2 => ?_
 refine af hP hN rfl ?_
 refine aa rfl fun _ k0 => ?_
 refine ax (h := aj mn) rfl rfl (by first | exact rfl | (simp only [ev, zP, M, E]; exact rfl)) (by simp only [zV, acs, reduceCtorEq, M, E, O, Z, Y, V, Mdl.av, Mdl.cs]) ?_
 apply k0; clear k0; simp only [zP, E]
 refine aa rfl fun _ k0 => ?_
 refine ax (h := aj rX) rfl rfl (by first | exact rfl | (simp only [ev, zP, M, E]; exact rfl)) (by simp only [zV, acs, reduceCtorEq, M, E, O, Z, Y, V, Mdl.av, Mdl.cs]) ?_
 apply k0; clear k0; simp only [zP, E]
 iterate 5 (refine aa rfl fun _ k0 => ?_; simp only [zO, zT, acs, reduceCtorEq, M, E, O, Z, Y, V, Mdl.av, Mdl.cs]; (repeat refine an ?_); (try refine .inl ?_); apply k0; clear k0; simp only [zP, E])
 refine ae ?_
 apply k2; clear k2; refine kp [0, 1, 2] ?_
 refine ab fun _ k3 => ?_
 refine af hP hN rfl ?_
 refine aa rfl fun _ k0 => ?_
 refine ax (h := aj uq) rfl rfl (by first | exact rfl | (simp only [ev, zP, M, E]; exact rfl)) (by simp only [zV, acs, reduceCtorEq, M, E, O, Z, Y, V, Mdl.av, Mdl.cs, List.append_eq, ak, am, gtx, gtA, gtB, gtC]) ?_
 apply k0; clear k0; simp only [zP, E]
 iterate 8 (refine aa rfl fun _ k0 => ?_; simp only [zO, zT, acs, reduceCtorEq, M, E, O, Z, Y, V, Mdl.av, Mdl.cs, List.append_eq, ak, am, gtx, gtA, gtB, gtC]; (repeat refine an ?_); (try refine .inl ?_); apply k0; clear k0; simp only [zP, E])
 refine ae ?_
 apply k3; clear k3; refine kp [0, 1, 2, 3, 4, 5] ?_
 refine ab fun _ k4 => ?_
 refine af hP hN rfl ?_
 refine aa rfl fun _ k0 => ?_
 refine ax (h := aj ux) rfl rfl (by first | exact rfl | (simp only [ev, zP, M, E]; exact rfl)) (by simp only [zV, acs, reduceCtorEq, M, E, O, Z, Y, V, Mdl.av, Mdl.cs, List.append_eq, ak, am, gtx, gtA, gtB, gtC]) ?_
 apply k0; clear k0; simp only [zP, E]
 iterate 8 (refine aa rfl fun _ k0 => ?_; simp only [zO, zT, acs, reduceCtorEq, M, E, O, Z, Y, V, Mdl.av, Mdl.cs, List.append_eq, ak, am, gtx, gtA, gtB, gtC]; (repeat refine an ?_); (try refine .inl ?_); apply k0; clear k0; simp only [zP, E])
 refine ae ?_
 apply k4; clear k4; refine kp [0, 1, 2, 3, 4, 5, 7, 8] ?_
 refine ab fun _ k5 => ?_
 refine af hP hN rfl ?_
 refine aa rfl fun _ k0 => ?_
 refine ax (h := aj uE) rfl rfl (by first | exact rfl | (simp only [ev, zP, M, E]; exact rfl)) (by simp only [zV, acs, reduceCtorEq, M, E, O, Z, Y, V, Mdl.av, Mdl.cs, List.append_eq, ak, am, gtx, gtA, gtB, gtC]) ?_
 apply k0; clear k0; simp only [zP, E]
 iterate 8 (refine aa rfl fun _ k0 => ?_; simp only [zO, zT, acs, reduceCtorEq, M, E, O, Z, Y, V, Mdl.av, Mdl.cs, List.append_eq, ak, am, gtx, gtA, gtB, gtC]; (repeat refine an ?_); (try refine .inl ?_); apply k0; clear k0; simp only [zP, E])
 refine ae ?_
 apply k5; clear k5; refine kp [0, 1, 2, 3, 4, 5, 7, 8, 10, 11] ?_
 refine ab fun _ k6 => ?_
 refine af hP hN rfl ?_
 refine aa rfl fun _ k0 => ?_
 refine ax (h := aj uz) rfl rfl (by first | exact rfl | (simp only [ev, zP, M, E]; exact rfl)) (by simp only [zV, acs, reduceCtorEq, M, E, O, Z, Y, V, Mdl.av, Mdl.cs, List.append_eq, ak, am, gtx, gtA, gtB, gtC]) ?_
 apply k0; clear k0; simp only [zP, E]
 iterate 8 (refine aa rfl fun _ k0 => ?_; simp only [zO, zT, acs, reduceCtorEq, M, E, O, Z, Y, V, Mdl.av, Mdl.cs, List.append_eq, ak, am, gtx, gtA, gtB, gtC]; (repeat refine an ?_); (try refine .inl ?_); apply k0; clear k0; simp only [zP, E])
 refine ae ?_
 apply k6; clear k6; refine kp [0, 1, 2, 3, 4, 5, 7, 8, 10, 11, 13, 14] ?_
 refine ab fun _ k7 => ?_
 refine af hP hN rfl ?_
 refine aa rfl fun _ k0 => ?_
 refine ax (h := aj uF) rfl rfl (by first | exact rfl | (simp only [ev, zP, M, E]; exact rfl)) (by simp only [zV, acs, reduceCtorEq, M, E, O, Z, Y, V, Mdl.av, Mdl.cs]) ?_
 apply k0; clear k0; simp only [zP, E]
 iterate 8 (refine aa rfl fun _ k0 => ?_; simp only [zO, zT, acs, reduceCtorEq, M, E, O, Z, Y, V, Mdl.av, Mdl.cs]; (repeat refine an ?_); (try refine .inl ?_); apply k0; clear k0; simp only [zP, E])
 refine ae ?_
 apply k7; clear k7; refine kp [0, 1, 2, 3, 4, 5, 7, 8, 10, 11, 13, 14, 16, 17] ?_
 refine ab fun _ k8 => ?_
 refine cC hP hN Tryd.mixed rfl ?_
 iterate 3 (refine aa rfl fun _ k0 => ?_; simp only [zO, zT, acs, reduceCtorEq, M, E, O, Z, Y, V, Mdl.av, Mdl.cs, List.append_eq, ak, am, gtx, gtA, gtB, gtC]; (repeat refine an ?_); (try refine .inl ?_); apply k0; clear k0; simp only [zP, E])
 refine' ar (want := true) 2 rfl (m := 50) (by simp only [zP, M, E]; exact rfl) (by kernel_rfl) rfl rfl rfl rfl rfl (fun hg9 => ?a9) ?b9 ?c9
 case a9 =>
  have hq9 := hg9; (try simp only [zB, reduceCtorEq] at hg9); simp only [zE]
  iterate 2 (refine aJ rfl fun _ k0 => ?_; simp only [zO, zT, acs, reduceCtorEq, M, E, O, Z, Y, V, Mdl.av, Mdl.cs, List.append_eq, ak, am, gtx, gtA, gtB, gtC]; (repeat refine an ?_); (try refine .inl ?_); apply k0; clear k0; simp only [zP, E])
  (refine aa rfl fun _ k0 => ?_; simp only [zO, zT, acs, reduceCtorEq, M, E, O, Z, Y, V, Mdl.av, Mdl.cs, List.append_eq, ak, am, gtx, gtA, gtB, gtC]; (repeat refine an ?_); (try refine .inl ?_); apply k0; clear k0; simp only [zP, E])
  refine ae ?_
  refine ⟨by simp only [zP, M, E]; exact rfl, rfl, ?_, rfl⟩; (repeat refine au rfl ?_); exact aH (by exact rfl) hq9
 case b9 => exact aU
 simp only [aA, aw]
 (refine aa rfl fun _ k0 => ?_; simp only [zO, zT, acs, reduceCtorEq, M, E, O, Z, Y, V, Mdl.av, Mdl.cs, List.append_eq, ak, am, gtx, gtA, gtB, gtC]; (repeat refine an ?_); (try refine .inl ?_); apply k0; clear k0; simp only [zP, E])
 refine' ar (want := true) 3 rfl (m := 54) (by simp only [zP, M, E]; exact rfl) (by kernel_rfl) rfl rfl rfl rfl rfl (fun hg10 => ?a10) ?b10 ?c10
 case a10 =>
  have hq10 := hg10; (try simp only [zB, reduceCtorEq] at hg10); simp only [zE]
  (refine aJ rfl fun _ k0 => ?_; simp only [zO, zT, acs, reduceCtorEq, M, E, O, Z, Y, V, Mdl.av, Mdl.cs, List.append_eq, ak, am, gtx, gtA, gtB, gtC]; (repeat refine an ?_); (try refine .inl ?_); apply k0; clear k0; simp only [zP, E])
  refine aJ rfl fun _ k0 => ?_
  refine ax (h := aj mn) rfl rfl (by first | exact rfl | (simp only [ev, zP, M, E]; exact rfl)) (by simp only [zV, acs, reduceCtorEq, M, E, O, Z, Y, V, Mdl.av, Mdl.cs, List.append_eq, ak, am, gtx, gtA, gtB, gtC]) ?_
  apply k0; clear k0; simp only [zP, E]
  refine aJ rfl fun _ k0 => ?_
  refine ax (h := aj (dx dV dV)) rfl rfl (by first | exact rfl | (simp only [ev, zP, M, E]; exact rfl)) (by simp only [zV, acs, reduceCtorEq, M, E, O, Z, Y, V, Mdl.av, Mdl.cs, List.append_eq, ak, am, gtx, gtA, gtB, gtC]) ?_
  apply k0; clear k0; simp only [zP, E]
  (refine aa rfl fun _ k0 => ?_; simp only [zO, zT, acs, reduceCtorEq, M, E, O, Z, Y, V, Mdl.av, Mdl.cs, List.append_eq, ak, am, gtx, gtA, gtB, gtC]; (repeat refine an ?_); (try refine .inl ?_); apply k0; clear k0; simp only [zP, E])
  refine ae ?_
  refine ⟨by simp only [zP, M, E]; exact rfl, rfl, ?_, rfl⟩; (repeat refine au rfl ?_); exact aH (by exact rfl) hq10
 case b10 => exact aU
 simp only [aA, aw]
 (refine aa rfl fun _ k0 => ?_; simp only [zO, zT, acs, reduceCtorEq, M, E, O, Z, Y, V, Mdl.av, Mdl.cs, List.append_eq, ak, am, gtx, gtA, gtB, gtC]; (repeat refine an ?_); (try refine .inl ?_); apply k0; clear k0; simp only [zP, E])
 refine' ar (want := true) 2 rfl (m := 59) (by simp only [zP, M, E]; exact rfl) (by kernel_rfl) rfl rfl rfl rfl rfl (fun hg11 => ?a11) ?b11 ?c11
 case a11 =>
  have hq11 := hg11; (try simp only [zB, reduceCtorEq] at hg11); simp only [zE]
  iterate 2 (refine aJ rfl fun _ k0 => ?_; simp only [zO, zT, acs, reduceCtorEq, M, E, O, Z, Y, V, Mdl.av, Mdl.cs, List.append_eq, ak, am, gtx, gtA, gtB, gtC]; (repeat refine an ?_); (try refine .inl ?_); apply k0; clear k0; simp only [zP, E])
  (refine aa rfl fun _ k0 => ?_; simp only [zO, zT, acs, reduceCtorEq, M, E, O, Z, Y, V, Mdl.av, Mdl.cs, List.append_eq, ak, am, gtx, gtA, gtB, gtC]; (repeat refine an ?_); (try refine .inl ?_); apply k0; clear k0; simp only [zP, E])
  refine ae ?_
  refine ⟨by simp only [zP, M, E]; exact rfl, rfl, ?_, rfl⟩; (repeat refine au rfl ?_); exact aH (by exact rfl) hq11
 case b11 => exact aU
 simp only [aA, aw]
 (refine aa rfl fun _ k0 => ?_; simp only [zO, zT, acs, reduceCtorEq, M, E, O, Z, Y, V, Mdl.av, Mdl.cs, List.append_eq, ak, am, gtx, gtA, gtB, gtC]; (repeat refine an ?_); (try refine .inl ?_); apply k0; clear k0; simp only [zP, E])
 refine' ar (want := true) 2 rfl (m := 63) (by simp only [zP, M, E]; exact rfl) (by kernel_rfl) rfl rfl rfl rfl rfl (fun hg12 => ?a12) ?b12 ?c12
 case a12 =>
  have hq12 := hg12; (try simp only [zB, reduceCtorEq] at hg12); simp only [zE]
  iterate 2 (refine aJ rfl fun _ k0 => ?_; simp only [zO, zT, acs, reduceCtorEq, M, E, O, Z, Y, V, Mdl.av, Mdl.cs, List.append_eq, ak, am, gtx, gtA, gtB, gtC]; (repeat refine an ?_); (try refine .inl ?_); apply k0; clear k0; simp only [zP, E])
  (refine aa rfl fun _ k0 => ?_; simp only [zO, zT, acs, reduceCtorEq, M, E, O, Z, Y, V, Mdl.av, Mdl.cs, List.append_eq, ak, am, gtx, gtA, gtB, gtC]; (repeat refine an ?_); (try refine .inl ?_); apply k0; clear k0; simp only [zP, E])
  refine ae ?_
  refine ⟨by simp only [zP, M, E]; exact rfl, rfl, ?_, rfl⟩; (repeat refine au rfl ?_); exact aH (by exact rfl) hq12
 case b12 => exact aU
 simp only [aA, aw]
 (refine aa rfl fun _ k0 => ?_; simp only [zO, zT, acs, reduceCtorEq, M, E, O, Z, Y, V, Mdl.av, Mdl.cs, List.append_eq, ak, am, gtx, gtA, gtB, gtC]; (repeat refine an ?_); (try refine .inl ?_); apply k0; clear k0; simp only [zP, E])
 refine' ar (want := true) 2 rfl (m := 67) (by simp only [zP, M, E]; exact rfl) (by kernel_rfl) rfl rfl rfl rfl rfl (fun hg13 => ?a13) ?b13 ?c13
 case a13 =>
  have hq13 := hg13; (try simp only [zB, reduceCtorEq] at hg13); simp only [zE]
  iterate 2 (refine aJ rfl fun _ k0 => ?_; simp only [zO, zT, acs, reduceCtorEq, M, E, O, Z, Y, V, Mdl.av, Mdl.cs, List.append_eq, ak, am, gtx, gtA, gtB, gtC]; (repeat refine an ?_); (try refine .inl ?_); apply k0; clear k0; simp only [zP, E])
  (refine aa rfl fun _ k0 => ?_; simp only [zO, zT, acs, reduceCtorEq, M, E, O, Z, Y, V, Mdl.av, Mdl.cs, List.append_eq, ak, am, gtx, gtA, gtB, gtC]; (repeat refine an ?_); (try refine .inl ?_); apply k0; clear k0; simp only [zP, E])
  refine ae ?_
  refine ⟨by simp only [zP, M, E]; exact rfl, rfl, ?_, rfl⟩; (repeat refine au rfl ?_); exact aH (by exact rfl) hq13
 case b13 => exact aU
 simp only [aA, aw]
 (refine aa rfl fun _ k0 => ?_; simp only [zO, zT, acs, reduceCtorEq, M, E, O, Z, Y, V, Mdl.av, Mdl.cs, List.append_eq, ak, am, gtx, gtA, gtB, gtC]; (repeat refine an ?_); (try refine .inl ?_); apply k0; clear k0; simp only [zP, E])
 refine' ar (want := true) 2 rfl (m := 71) (by simp only [zP, M, E]; exact rfl) (by kernel_rfl) rfl rfl rfl rfl rfl (fun hg14 => ?a14) ?b14 ?c14
 case a14 =>
  have hq14 := hg14; (try simp only [zB, reduceCtorEq] at hg14); simp only [zE]
  iterate 2 (refine aJ rfl fun _ k0 => ?_; simp only [zO, zT, acs, reduceCtorEq, M, E, O, Z, Y, V, Mdl.av, Mdl.cs, List.append_eq, ak, am, gtx, gtA, gtB, gtC]; (repeat refine an ?_); (try refine .inl ?_); apply k0; clear k0; simp only [zP, E])
  (refine aa rfl fun _ k0 => ?_; simp only [zO, zT, acs, reduceCtorEq, M, E, O, Z, Y, V, Mdl.av, Mdl.cs, List.append_eq, ak, am, gtx, gtA, gtB, gtC]; (repeat refine an ?_); (try refine .inl ?_); apply k0; clear k0; simp only [zP, E])
  refine ae ?_
  refine ⟨by simp only [zP, M, E]; exact rfl, rfl, ?_, rfl⟩; (repeat refine au rfl ?_); exact aH (by exact rfl) hq14
 case b14 => exact aU
 simp only [aA, aw]
 (refine aa rfl fun _ k0 => ?_; simp only [zO, zT, acs, reduceCtorEq, M, E, O, Z, Y, V, Mdl.av, Mdl.cs, List.append_eq, ak, am, gtx, gtA, gtB, gtC]; (repeat refine an ?_); (try refine .inl ?_); apply k0; clear k0; simp only [zP, E])
 refine' ar (want := true) 2 rfl (m := 75) (by simp only [zP, M, E]; exact rfl) (by kernel_rfl) rfl rfl rfl rfl rfl (fun hg15 => ?a15) ?b15 ?c15
 case a15 =>
  have hq15 := hg15; (try simp only [zB, reduceCtorEq] at hg15); simp only [zE]
  iterate 2 (refine aJ rfl fun _ k0 => ?_; simp only [zO, zT, acs, reduceCtorEq, M, E, O, Z, Y, V, Mdl.av, Mdl.cs, List.append_eq, ak, am, gtx, gtA, gtB, gtC]; (repeat refine an ?_); (try refine .inl ?_); apply k0; clear k0; simp only [zP, E])
  (refine aa rfl fun _ k0 => ?_; simp only [zO, zT, acs, reduceCtorEq, M, E, O, Z, Y, V, Mdl.av, Mdl.cs, List.append_eq, ak, am, gtx, gtA, gtB, gtC]; (repeat refine an ?_); (try refine .inl ?_); apply k0; clear k0; simp only [zP, E])
  refine ae ?_
  refine ⟨by simp only [zP, M, E]; exact rfl, rfl, ?_, rfl⟩; (repeat refine au rfl ?_); exact aH (by exact rfl) hq15
 case b15 => exact aU
 simp only [aA, aw]
 (refine aa rfl fun _ k0 => ?_; simp only [zO, zT, acs, reduceCtorEq, M, E, O, Z, Y, V, Mdl.av, Mdl.cs, List.append_eq, ak, am, gtx, gtA, gtB, gtC]; (repeat refine an ?_); (try refine .inl ?_); apply k0; clear k0; simp only [zP, E])
 refine' ar (want := true) 2 rfl (m := 79) (by simp only [zP, M, E]; exact rfl) (by kernel_rfl) rfl rfl rfl rfl rfl (fun hg16 => ?a16) ?b16 ?c16
 case a16 =>
  have hq16 := hg16; (try simp only [zB, reduceCtorEq] at hg16); simp only [zE]
  iterate 2 (refine aJ rfl fun _ k0 => ?_; simp only [zO, zT, acs, reduceCtorEq, M, E, O, Z, Y, V, Mdl.av, Mdl.cs, List.append_eq, ak, am, gtx, gtA, gtB, gtC]; (repeat refine an ?_); (try refine .inl ?_); apply k0; clear k0; simp only [zP, E])
  (refine aa rfl fun _ k0 => ?_; simp only [zO, zT, acs, reduceCtorEq, M, E, O, Z, Y, V, Mdl.av, Mdl.cs, List.append_eq, ak, am, gtx, gtA, gtB, gtC]; (repeat refine an ?_); (try refine .inl ?_); apply k0; clear k0; simp only [zP, E])
  refine ae ?_
  refine ⟨by simp only [zP, M, E]; exact rfl, rfl, ?_, rfl⟩; (repeat refine au rfl ?_); exact aH (by exact rfl) hq16
 case b16 => exact aU
 simp only [aA, aw]
 (refine aa rfl fun _ k0 => ?_; simp only [zO, zT, acs, reduceCtorEq, M, E, O, Z, Y, V, Mdl.av, Mdl.cs, List.append_eq, ak, am, gtx, gtA, gtB, gtC]; (repeat refine an ?_); (try refine .inl ?_); apply k0; clear k0; simp only [zP, E])
 refine' ar (want := true) 2 rfl (m := 83) (by simp only [zP, M, E]; exact rfl) (by kernel_rfl) rfl rfl rfl rfl rfl (fun hg17 => ?a17) ?b17 ?c17
 case a17 =>
  have hq17 := hg17; (try simp only [zB, reduceCtorEq] at hg17); simp only [zE]
  iterate 2 (refine aJ rfl fun _ k0 => ?_; simp only [zO, zT, acs, reduceCtorEq, M, E, O, Z, Y, V, Mdl.av, Mdl.cs, List.append_eq, ak, am, gtx, gtA, gtB, gtC]; (repeat refine an ?_); (try refine .inl ?_); apply k0; clear k0; simp only [zP, E])
  (refine aa rfl fun _ k0 => ?_; simp only [zO, zT, acs, reduceCtorEq, M, E, O, Z, Y, V, Mdl.av, Mdl.cs, List.append_eq, ak, am, gtx, gtA, gtB, gtC]; (repeat refine an ?_); (try refine .inl ?_); apply k0; clear k0; simp only [zP, E])
  refine ae ?_
  refine ⟨by simp only [zP, M, E]; exact rfl, rfl, ?_, rfl⟩; (repeat refine au rfl ?_); exact aH (by exact rfl) hq17
 case b17 => exact aU
 simp only [aA, aw]
 (refine aa rfl fun _ k0 => ?_; simp only [zO, zT, acs, reduceCtorEq, M, E, O, Z, Y, V, Mdl.av, Mdl.cs, List.append_eq, ak, am, gtx, gtA, gtB, gtC]; (repeat refine an ?_); (try refine .inl ?_); apply k0; clear k0; simp only [zP, E])
 refine' ar (want := true) 2 rfl (m := 87) (by simp only [zP, M, E]; exact rfl) (by kernel_rfl) rfl rfl rfl rfl rfl (fun hg18 => ?a18) ?b18 ?c18
 case a18 =>
  have hq18 := hg18; (try simp only [zB, reduceCtorEq] at hg18); simp only [zE]
  iterate 2 (refine aJ rfl fun _ k0 => ?_; simp only [zO, zT, acs, reduceCtorEq, M, E, O, Z, Y, V, Mdl.av, Mdl.cs, List.append_eq, ak, am, gtx, gtA, gtB, gtC]; (repeat refine an ?_); (try refine .inl ?_); apply k0; clear k0; simp only [zP, E])
  (refine aa rfl fun _ k0 => ?_; simp only [zO, zT, acs, reduceCtorEq, M, E, O, Z, Y, V, Mdl.av, Mdl.cs, List.append_eq, ak, am, gtx, gtA, gtB, gtC]; (repeat refine an ?_); (try refine .inl ?_); apply k0; clear k0; simp only [zP, E])
  refine ae ?_
  refine ⟨by simp only [zP, M, E]; exact rfl, rfl, ?_, rfl⟩; (repeat refine au rfl ?_); exact aH (by exact rfl) hq18
 case b18 => exact aU
 simp only [aA, aw]
 (refine aa rfl fun _ k0 => ?_; simp only [zO, zT, acs, reduceCtorEq, M, E, O, Z, Y, V, Mdl.av, Mdl.cs, List.append_eq, ak, am, gtx, gtA, gtB, gtC]; (repeat refine an ?_); (try refine .inl ?_); apply k0; clear k0; simp only [zP, E])
 refine' ar (want := true) 2 rfl (m := 91) (by simp only [zP, M, E]; exact rfl) (by kernel_rfl) rfl rfl rfl rfl rfl (fun hg19 => ?a19) ?b19 ?c19
 case a19 =>
  have hq19 := hg19; (try simp only [zB, reduceCtorEq] at hg19); simp only [zE]
  iterate 2 (refine aJ rfl fun _ k0 => ?_; simp only [zO, zT, acs, reduceCtorEq, M, E, O, Z, Y, V, Mdl.av, Mdl.cs, List.append_eq, ak, am, gtx, gtA, gtB, gtC]; (repeat refine an ?_); (try refine .inl ?_); apply k0; clear k0; simp only [zP, E])
  (refine aa rfl fun _ k0 => ?_; simp only [zO, zT, acs, reduceCtorEq, M, E, O, Z, Y, V, Mdl.av, Mdl.cs, List.append_eq, ak, am, gtx, gtA, gtB, gtC]; (repeat refine an ?_); (try refine .inl ?_); apply k0; clear k0; simp only [zP, E])
  refine ae ?_
  refine ⟨by simp only [zP, M, E]; exact rfl, rfl, ?_, rfl⟩; (repeat refine au rfl ?_); exact aH (by exact rfl) hq19
 case b19 => exact aU
 simp only [aA, aw]
 (refine aa rfl fun _ k0 => ?_; simp only [zO, zT, acs, reduceCtorEq, M, E, O, Z, Y, V, Mdl.av, Mdl.cs, List.append_eq, ak, am, gtx, gtA, gtB, gtC]; (repeat refine an ?_); (try refine .inl ?_); apply k0; clear k0; simp only [zP, E])
 refine' ar (want := true) 2 rfl (m := 95) (by simp only [zP, M, E]; exact rfl) (by kernel_rfl) rfl rfl rfl rfl rfl (fun hg20 => ?a20) ?b20 ?c20
 case a20 =>
  have hq20 := hg20; (try simp only [zB, reduceCtorEq] at hg20); simp only [zE]
  iterate 2 (refine aJ rfl fun _ k0 => ?_; simp only [zO, zT, acs, reduceCtorEq, M, E, O, Z, Y, V, Mdl.av, Mdl.cs, List.append_eq, ak, am, gtx, gtA, gtB, gtC]; (repeat refine an ?_); (try refine .inl ?_); apply k0; clear k0; simp only [zP, E])
  (refine aa rfl fun _ k0 => ?_; simp only [zO, zT, acs, reduceCtorEq, M, E, O, Z, Y, V, Mdl.av, Mdl.cs, List.append_eq, ak, am, gtx, gtA, gtB, gtC]; (repeat refine an ?_); (try refine .inl ?_); apply k0; clear k0; simp only [zP, E])
  refine ae ?_
  refine ⟨by simp only [zP, M, E]; exact rfl, rfl, ?_, rfl⟩; (repeat refine au rfl ?_); exact aH (by exact rfl) hq20
 case b20 => exact aU
 simp only [aA, aw]
 (refine aa rfl fun _ k0 => ?_; simp only [zO, zT, acs, reduceCtorEq, M, E, O, Z, Y, V, Mdl.av, Mdl.cs, List.append_eq, ak, am, gtx, gtA, gtB, gtC]; (repeat refine an ?_); (try refine .inl ?_); apply k0; clear k0; simp only [zP, E])
 refine ae ?_
 refine ⟨by kernel_rfl, ?_⟩
 apply k8; clear k8; refine kp [0, 1, 2, 3, 4, 5, 7, 8, 10, 11, 13, 14, 16, 17] ?_
 refine ay ?_
 refine ⟨nr, _, rfl, ?_⟩; simp only [zF, zP, M, E, Mdl.av, Mdl.cs]
 refine VLE.of_eq ?_
 rw [bJ]; rfl
theorem sd (s : Bs) (c : UInt8) (hs : s.length ≤ 1048576) : bI Tryd.prog 13 [.one (.str s), .one (.int .u8 (c.toNat : Int))] (.one (.list .str (spB c s))) := by
 refine aP Tryd.func13 rfl (by kernel_rfl) (Nat.le_of_ble_eq_true rfl) rfl fun C hP hN hB => ?_
 replace hN : C.N = 45 := hN
 simp only [aW, E]
 refine ab fun _ k1 => ?_
 refine af hP hN rfl ?_
 (refine aa rfl fun _ k0 => ?_; simp only [zO, zT, acs, reduceCtorEq, M, E, O, Z, Y, V]; (repeat refine an ?_); (try refine .inl ?_); apply k0; clear k0; simp only [zP, E])
 refine ae ?_
 apply k1; clear k1; refine kp [0, 1, 4] ?_
 refine ab fun _ k2 => ?_
 refine af hP hN rfl ?_
 (refine aa rfl fun _ k0 => ?_; simp only [zO, zT, acs, reduceCtorEq, M, E, O, Z, Y, V]; (repeat refine an ?_); refine Or.inr (Or.inl (k0 _ ?_)); clear k0; simp only [zP, E])
 (refine aa rfl fun _ k0 => ?_; simp only [zO, zT, acs, reduceCtorEq, M, E, O, Z, Y, V]; (repeat refine an ?_); (try refine .inl ?_); apply k0; clear k0; simp only [zP, E])
 refine ae ?_
 apply k2; clear k2; refine kp [0, 1, 4, 5] ?_
 refine ab fun _ k3 => ?_
 refine af hP hN rfl ?_
 (refine aa rfl fun _ k0 => ?_; simp only [zO, zT, acs, reduceCtorEq, M, E, O, Z, Y, V]; (repeat refine an ?_); (try refine .inl ?_); apply k0; clear k0; simp only [zP, E])
 refine ae ?_
 apply k3; clear k3; refine kp [0, 1, 4, 5, 6] ?_
 refine ab fun _ k4 => ?_
 refine ab fun _ k5 => ?_
 refine af hP hN rfl ?_
 (refine aa rfl fun _ k0 => ?_; simp only [zO, zT, acs, reduceCtorEq, M, E, O, Z, Y, V]; (repeat refine an ?_); (try refine .inl ?_); apply k0; clear k0; simp only [zP, E])
 refine ae ?_
 apply k5; clear k5; refine kp [0, 1, 4, 5, 6, 7] ?_
 refine aG ?_
 refine bB (fun n6 s6 => ∃ (k : Nat) (v : Nat) (o : List Bs) (f : Nat), (k ≤ s.length + 1) ∧ (k ≤ s.length → o = (dH c s k).1 ++ [[]] ∧ f = (dH c s k).2) ∧ (k = s.length + 1 → o = spB c s) ∧ n6 = s.length + 1 - k ∧ s6 = { env := [(0, .one (.str s)), (1, .one (.int .u8 (c.toNat : Int))), (4, .one .nils), (5, .one (.row 0 v)), (6, .one (.int .i64 (f : Int))), (7, .one (.int .i64 (k : Int)))], L := [.row .str 9 v o] }) ?_ ?_
 ·exact ⟨_, _, aK [0, 1, 4, 5, 6, 7], 0, 0, [[]], 0, by omega, fun _ => ⟨rfl, rfl⟩, fun h => by omega, rfl, rfl⟩
 rintro n6 s6 ⟨k, v, o, f, hk, ho, he, rfl, rfl⟩
 refine ab fun _ k7 => ?_
 refine ab fun _ k8 => ?_
 refine af hP hN rfl ?_
 iterate 4 (refine aa rfl fun _ k0 => ?_; simp only [zO, zT, acs, reduceCtorEq, M, E, O, Z, Y, V]; (repeat refine an ?_); (try refine .inl ?_); apply k0; clear k0; simp only [zP, E])
 refine ae ?_
 apply k8; clear k8; refine kp [0, 1, 4, 5, 6, 7, 12] ?_
 refine cd (fun hc9 => ?_) (fun hc9 => ?_)
 ·(try simp only [zB, reduceCtorEq] at hc9)
  have hks : k ≤ s.length := by omega
  obtain ⟨rfl, rfl⟩ := ho hks
  have hcf := hZ c s k; have hcl := mT c s k
  refine az ?_
  apply k7; clear k7; refine kp [0, 1, 4, 5, 6, 7, 12] ?_
  refine ab fun _ k10 => ?_
  refine aG ?_
  refine ab fun _ k11 => ?_
  refine af hP hN rfl ?_
  iterate 5 (refine aa rfl fun _ k0 => ?_; simp only [zO, zT, acs, reduceCtorEq, M, E, O, Z, Y, V]; (repeat refine an ?_); (try refine .inl ?_); apply k0; clear k0; simp only [zP, E])
  refine' ar (want := false) 5 rfl (m := 19) (by simp only [zP, M, E]; exact rfl) (by kernel_rfl) rfl rfl rfl rfl rfl (fun hg12 => ?a12) ?b12 ?c12
  case a12 =>
   have hq12 := hg12; (try simp only [zB, reduceCtorEq] at hg12); simp only [zE]
   iterate 5 (refine aJ rfl fun _ k0 => ?_; simp only [zO, zT, acs, reduceCtorEq, M, E, O, Z, Y, V]; (repeat refine an ?_); (try refine .inl ?_); apply k0; clear k0; simp only [zP, E])
   (refine aa rfl fun _ k0 => ?_; simp only [zO, zT, acs, reduceCtorEq, M, E, O, Z, Y, V]; (repeat refine an ?_); (try refine .inl ?_); apply k0; clear k0; simp only [zP, E])
   refine ae ?_
   refine ⟨by simp only [zP, M, E]; exact rfl, rfl, ?_, rfl⟩; (repeat refine au rfl ?_); exact aH (by exact rfl) hq12
  case b12 => exact aU
  simp only [aA, aw]
  refine ae ?_
  apply k11; clear k11; refine kp [0, 1, 4, 5, 6, 7, 12, 25] ?_
  refine cd (fun hc13 => ?_) (fun hc13 => ?_)
  ·(try simp only [zB, reduceCtorEq] at hc13)
   refine ab fun _ k14 => ?_
   refine af hP hN rfl ?_
   iterate 7 (refine aa rfl fun _ k0 => ?_; simp only [zO, zT, acs, reduceCtorEq, M, E, O, Z, Y, V, ag, ah, aq]; (repeat refine an ?_); (try refine .inl ?_); apply k0; clear k0; simp only [zP, E, sZ, je])
   (refine aa rfl fun _ k0 => ?_; simp only [zE, op1, ev, lkp, cU, bp, cq, gW, fO, bY, cw, eP, Nat.div_one, cZ, cG, Ty.size, aX, dite_true, eN, bu, cW, dC, cI, dB, co, bnd, cE, zG, Ty.dflt, Nat.mul_one, ne_eq, not_false_eq_true, Int.natCast_one, Int.mul_one, dz, bn, ba, acs, reduceCtorEq, M, E, O, Z, Y, V, Tryd.el22, Tryd.td22, Tryd.td3, Tryd.td9, ag, ah, aq]; (repeat refine an ?_); (try refine .inl ?_); apply k0; clear k0; simp only [zP, E, sZ, je])
   iterate 2 (refine aa rfl fun _ k0 => ?_; simp only [zO, zT, acs, reduceCtorEq, M, E, O, Z, Y, V, ag, ah, aq]; (repeat refine an ?_); (try refine .inl ?_); apply k0; clear k0; simp only [zP, E, sZ, je])
   refine ae ?_
   apply k14; clear k14; refine kp [0, 1, 4, 5, 6, 7, 12, 25] ?_
   refine ab fun _ k15 => ?_
   refine af hP hN rfl ?_
   iterate 3 (refine aa rfl fun _ k0 => ?_; simp only [zO, zT, acs, reduceCtorEq, M, E, O, Z, Y, V]; (repeat refine an ?_); (try refine .inl ?_); apply k0; clear k0; simp only [zP, E])
   refine ae ?_
   apply k15; clear k15; refine kp [0, 1, 4, 5, 6, 7, 12, 25] ?_
   refine ab fun _ k16 => ?_
   refine af hP hN rfl ?_
   iterate 4 (refine aa rfl fun _ k0 => ?_; simp only [zO, zT, acs, reduceCtorEq, M, E, O, Z, Y, V]; (repeat refine an ?_); (try refine .inl ?_); apply k0; clear k0; simp only [zP, E])
   refine ae ?_
   apply k16; clear k16; refine kp [0, 1, 4, 5, 6, 7, 12, 25, 40] ?_
   refine cd (fun hc17 => ?_) (fun hc17 => ?_)
   ·(try simp only [zB, reduceCtorEq] at hc17)
    refine af hP hN rfl ?_
    iterate 4 (refine aa rfl fun _ k0 => ?_; simp only [zO, zT, acs, reduceCtorEq, M, E, O, Z, Y, V, ag, ah, aq]; (repeat refine an ?_); (try refine .inl ?_); apply k0; clear k0; simp only [zP, E])
    refine ae ?_
    apply k10; clear k10; refine kp [0, 1, 4, 5, 6, 7, 12, 25, 40] ?_
    refine af hP hN rfl ?_
    iterate 3 (refine aa rfl fun _ k0 => ?_; simp only [zO, zT, acs, reduceCtorEq, M, E, O, Z, Y, V]; (repeat refine an ?_); (try refine .inl ?_); apply k0; clear k0; simp only [zP, E])
    refine ae ?_
    first
    | (have h32 : bt s k = (c.toNat : Int) := by unfold bt; omega
       refine ⟨_, _, ?_, aK [0, 1, 4, 5, 6, 7], k + 1, v + 1, _, k + 1, by omega, fun _ => ?_, fun h => by omega, rfl, rfl⟩
       · omega
       · rw [gE h32]; exact ⟨rfl, rfl⟩)
    | (refine ⟨_, _, ?_, aK [0, 1, 4, 5, 6, 7], k + 1, v, _, k + 1, by omega, fun h => by omega, fun _ => ?_, rfl, rfl⟩
       · omega
       · have e : k = s.length := by omega
         subst e; exact jt c s)
    | (have h32 : ¬ bt s k = (c.toNat : Int) := by unfold bt; omega
       refine ⟨_, _, ?_, aK [0, 1, 4, 5, 6, 7], k + 1, v, _, _, by omega, fun h => ?_, fun h => by omega, rfl, rfl⟩
       · omega
       · rw [iX h32]; exact ⟨rfl, rfl⟩)
   (try simp only [zB, reduceCtorEq] at hc17)
   refine az ?_
   apply k10; clear k10; refine kp [0, 1, 4, 5, 6, 7, 12, 25, 40] ?_
   refine af hP hN rfl ?_
   iterate 3 (refine aa rfl fun _ k0 => ?_; simp only [zO, zT, acs, reduceCtorEq, M, E, O, Z, Y, V]; (repeat refine an ?_); (try refine .inl ?_); apply k0; clear k0; simp only [zP, E])
   refine ae ?_
   first
   | (have h32 : bt s k = (c.toNat : Int) := by unfold bt; omega
      refine ⟨_, _, ?_, aK [0, 1, 4, 5, 6, 7], k + 1, v + 1, _, k + 1, by omega, fun _ => ?_, fun h => by omega, rfl, rfl⟩
      · omega
      · rw [gE h32]; exact ⟨rfl, rfl⟩)
   | (refine ⟨_, _, ?_, aK [0, 1, 4, 5, 6, 7], k + 1, v, _, k + 1, by omega, fun h => by omega, fun _ => ?_, rfl, rfl⟩
      · omega
      · have e : k = s.length := by omega
        subst e; exact jt c s)
   | (have h32 : ¬ bt s k = (c.toNat : Int) := by unfold bt; omega
      refine ⟨_, _, ?_, aK [0, 1, 4, 5, 6, 7], k + 1, v, _, _, by omega, fun h => ?_, fun h => by omega, rfl, rfl⟩
      · omega
      · rw [iX h32]; exact ⟨rfl, rfl⟩)
  (try simp only [zB, reduceCtorEq] at hc13)
  refine az ?_
  apply k10; clear k10; refine kp [0, 1, 4, 5, 6, 7, 12, 25] ?_
  refine af hP hN rfl ?_
  iterate 3 (refine aa rfl fun _ k0 => ?_; simp only [zO, zT, acs, reduceCtorEq, M, E, O, Z, Y, V]; (repeat refine an ?_); (try refine .inl ?_); apply k0; clear k0; simp only [zP, E])
  refine ae ?_
  first
  | (have h32 : bt s k = (c.toNat : Int) := by unfold bt; omega
     refine ⟨_, _, ?_, aK [0, 1, 4, 5, 6, 7], k + 1, v + 1, _, k + 1, by omega, fun _ => ?_, fun h => by omega, rfl, rfl⟩
     · omega
     · rw [gE h32]; exact ⟨rfl, rfl⟩)
  | (refine ⟨_, _, ?_, aK [0, 1, 4, 5, 6, 7], k + 1, v, _, k + 1, by omega, fun h => by omega, fun _ => ?_, rfl, rfl⟩
     · omega
     · have e : k = s.length := by omega
       subst e; exact jt c s)
  | (have h32 : ¬ bt s k = (c.toNat : Int) := by unfold bt; omega
     refine ⟨_, _, ?_, aK [0, 1, 4, 5, 6, 7], k + 1, v, _, _, by omega, fun h => ?_, fun h => by omega, rfl, rfl⟩
     · omega
     · rw [iX h32]; exact ⟨rfl, rfl⟩)
 (try simp only [zB, reduceCtorEq] at hc9)
 refine bz ?_
 apply k4; clear k4; refine kp [0, 1, 4, 5, 6, 7, 12] ?_
 refine ab fun _ k18 => ?_
 refine af hP hN rfl ?_
 iterate 2 (refine aa rfl fun _ k0 => ?_; simp only [zO, zT, acs, reduceCtorEq, M, E, O, Z, Y, V]; (repeat refine an ?_); (try refine .inl ?_); apply k0; clear k0; simp only [zP, E])
 refine ae ?_
 apply k18; clear k18; refine kp [0, 1, 4, 5, 6, 7, 12] ?_
 refine ay ?_
 refine ⟨nr, _, rfl, ?_⟩; simp only [zF, zP, M, E]
 refine VLE.of_eq ?_
 rw [he (by omega)]
theorem qy (s : Bs) (hs : s.length ≤ 1048576) : bI Tryd.prog 13 [.one (.str s), .one (.int .u8 10)] (.one (.list .str (spB 10 s))) := sd s 10 hs
end Go.Proofs.YtmfkpljjhiglpaaDoor
