/- Contracts of functions of this seat, each out of a walk through its code, and plain facts on what they compute. Conditions: those that each theorem names. -/
import Derived.Test.YtmfkpljjhiglpaaDoorW02
set_option linter.unusedSimpArgs false
set_option linter.unusedVariables false
set_option maxRecDepth 100000
namespace Go.Proofs.YtmfkpljjhiglpaaDoor
open Go Go.AV
open Nat renaming reduceEqDiff → M, reduceAdd → E, reduceLeDiff → O, reduceLT → Z, reduceMul → Y, reduceSub → V
open List renaming set_cons_zero → bU, set_cons_succ → ba, getD_cons_zero → db, length_append → ag, map_cons → aU, cons_append → aj, map_nil → bI, length_cons → ah, nil_append → am, take_succ_cons → cj, length_nil → aq, length_map → bG, length_replicate → aH, take_length → aG, mem_cons_self → aR, mem_cons_of_mem → aD
open Int renaming toNat_natCast → aK
section
open Go.RowKit Go.Shelf
attribute [local go_sem] Oper.semAt_some
def R13 (w : World) (k : Nat) (W W' : World) : Prop :=
  (W.heap.size ≤ W'.heap.size ∧ W'.os = W.os ∧ W'.tape = W.tape ∧ W'.output = W.output ∧ ∀ b, b < W.heap.size → b ≠ w.heap.size → b ≠ w.heap.size + 1 → b ≠ w.heap.size + 2 → W'.heap[b]? = W.heap[b]?) ∧
  W'.heap[w.heap.size]? = some (.cells zmC 29 (0, 0)) ∧ Boxed W' (w.heap.size + 1) 3 (.int .i64 ((k : Int) + 1)) ∧ Boxed W' (w.heap.size + 2) 32 (.int .i64 12)
theorem qv {w W W3 : World} {k : Nat} (hp : PS w (k : Int) W) (hc : Chg w.heap.size W.drew W3) (hg : W3.heap[w.heap.size]? = some (.cells zmC 29 (0, 0))) (b3 : Boxed W3 (w.heap.size + 1) 3 (.int .i64 0)) (b4 : Boxed W3 (w.heap.size + 2) 32 (.int .i64 0)) :
    R13 w k W ((W3.setCell ⟨w.heap.size + 1, 0, none⟩ (.int .i64 ((k : Int) + 1))).setCell ⟨w.heap.size + 1 + 1, 0, none⟩ (.int .i64 12)) := by
  have hc1 := dO W3 (w.heap.size + 1) (.int .i64 ((k : Int) + 1))
  have hc2 := dO (W3.setCell ⟨w.heap.size + 1, 0, none⟩ (.int .i64 ((k : Int) + 1))) (w.heap.size + 1 + 1) (.int .i64 12)
  have hz : w.heap.size + 8 < W.drew.heap.size := hp.sz
  have s3 := hc.size
  have s4 := hc1.size
  have s5 := hc2.size
  exact ⟨⟨Nat.le_trans s3 (Nat.le_trans s4 s5), hc2.os.trans (hc1.os.trans hc.os), hc2.tape.trans (hc1.tape.trans hc.tape), hc2.output.trans (hc1.output.trans hc.output), fun b q1 q2 q3 q4 => (hc2.same b q4 (Nat.lt_of_lt_of_le (show b < W.drew.heap.size from q1) (Nat.le_trans s3 s4))).trans ((hc1.same b q3 (Nat.lt_of_lt_of_le (show b < W.drew.heap.size from q1) s3)).trans (hc.same b q2 q1))⟩,
    (hc2.same _ (by omega) (by omega)).trans ((hc1.same _ (by omega) (by omega)).trans hg), hc2.boxed (b3.set _) (by omega), Boxed.set (B := w.heap.size + 1 + 1) _ (hc1.boxed b4 (by omega))⟩
theorem uQ {w W W3 : World} {last i er : Int} {cs : Array Value} (hp : PS w last W) (h3 : Chg w.heap.size W W3 ∧ W3.heap[w.heap.size]? = some (.cells cs 29 (0, 0)) ∧ Boxed W3 (w.heap.size + 1) 3 (.int .i64 0) ∧ Boxed W3 (w.heap.size + 2) 32 (.int .i64 0)) (hD : W.heap[w.heap.size + 7]? = some (.deferred (some []))) :
    ∃ Wf, ((W3.setCell ⟨w.heap.size + 1, 0, none⟩ (.int .i64 i)).setCell ⟨w.heap.size + 1 + 1, 0, none⟩ (.int .i64 er)) = Wf ∧ Below w.heap.size w Wf ∧ Wf.heap[w.heap.size]? = some (.cells cs 29 (0, 0)) ∧ Boxed Wf (w.heap.size + 1) 3 (.int .i64 i) ∧ Boxed Wf (w.heap.size + 2) 32 (.int .i64 er) ∧
      Wf.heap[w.heap.size + 7]? = some (.deferred (some [])) ∧ W.heap.size ≤ Wf.heap.size ∧ ∀ b, b < W.heap.size → ¬ XP w.heap.size b → Wf.heap[b]? = W.heap[b]? := by
  obtain ⟨hc, hg, b3, b4⟩ := h3
  have hc1 := dO W3 (w.heap.size + 1) (.int .i64 i)
  have hc2 := dO (W3.setCell ⟨w.heap.size + 1, 0, none⟩ (.int .i64 i)) (w.heap.size + 1 + 1) (.int .i64 er)
  have hz := hp.sz
  have s3 := hc.size
  have s4 := hc1.size
  have s5 := hc2.size
  have hall : ∀ b, b < W.heap.size → b ≠ w.heap.size → b ≠ w.heap.size + 1 → b ≠ w.heap.size + 1 + 1 → ((W3.setCell ⟨w.heap.size + 1, 0, none⟩ (.int .i64 i)).setCell ⟨w.heap.size + 1 + 1, 0, none⟩ (.int .i64 er)).heap[b]? = W.heap[b]? :=
    fun b q1 q2 q3 q4 => (hc2.same b q4 (by omega)).trans ((hc1.same b q3 (by omega)).trans (hc.same b q2 q1))
  refine ⟨_, rfl, hc2.below (hc1.below (hc.below hp.bl (Nat.le_refl _) (Nat.le_refl _)) (Nat.le_refl _) (by omega)) (Nat.le_refl _) (by omega), (hc2.same _ (by omega) (by omega)).trans ((hc1.same _ (by omega) (by omega)).trans hg), hc2.boxed (b3.set _) (by omega), Boxed.set (B := w.heap.size + 1 + 1) _ (hc1.boxed b4 (by omega)), (hall _ (by omega) (by omega) (by omega) (by omega)).trans hD, by omega, fun b hb hx => hall b hb ?_ ?_ ?_⟩
  all_goals (intro e; subst e; exact hx ⟨by omega, by omega⟩)
set_option maxHeartbeats 4000000 in
theorem qi (n : Nat) (hn : 6 ≤ n) (s : Bs) (hs : s.length ≤ 900000) (w : World) : CallsIn Fence.wide n Tryd.prog 11 #[.string ⟨s.toArray⟩] w (MpQ s w) := by
  have h1 : 1 ≤ n := by omega
  have w23 : Fence.wide.fn 23 := trivial
  refine callsIn_of_wp_marks Tryd.func11 rfl trivial ?_ rfl
  simp only [Tryd.ntmps11, List.size_toArray, ah, aq, E, V, Array.replicate_succ, Array.replicate_zero, List.push_toArray, List.append_toArray, am, aj]
  have hbig : ¬ 1048576 < s.length := by omega
  gi_wp2_with (gi_at_call 23; refine (tX (n - 1) _ _).mono ?_; rintro e w' ⟨rfl, rfl⟩)
  obtain ⟨W0, hW0⟩ : ∃ W0, ((j6 s w.heap.size).foldl (fun W o => W.alloc o) w) = W0 := ⟨_, rfl⟩
  show Code.wpIn Fence.wide n Tryd.prog _ _ _ ((j6 s w.heap.size).foldl (fun W o => W.alloc o) w)
  have hst0 := pG s w
  have hz0 := fI (j6 s w.heap.size) w
  rw [hW0] at hst0 hz0 ⊢
  replace hz0 : W0.heap.size = w.heap.size + 7 := hz0
  clear hW0
  refine nP rfl h1 (gf := 34) (lb := #[.pointer (some ⟨w.heap.size + 6, 0, none⟩)]) rfl trivial (enters_of Tryd.func34 (by kernel_rfl) rfl)
    (oL (n - 1) (by omega) s (by omega) (w.heap.size + 6)) (fun _ => rfl) ?hstp (IPs s w) (IYs s w) (fun c k W => c = .ret ∧ IXs s w k W) (fun k W h => h.2.1) (fun k W h => h.2.1) (fun k W h => rJ h)
    ?hIp ?hYp ?hXp ?h0 ?a1 ?hassign ?hbody ?hdone ?hstop
  case hassign =>
    intro l k W K hK
    gi_wp2
    exact hK
  case hstp => intro k W b hb; exact Below.heap_setCell W _ _ b (by show b ≠ w.heap.size + 6; omega)
  case hIp => intro k W r h _; rw [hz0]; exact sN h
  case hYp => intro k W r h _; rw [hz0]; exact tw h
  case hXp => rintro c k W r ⟨hc, h⟩ hz; rw [hz0] at hz ⊢; exact ⟨hc, tt h hz⟩
  case h0 => intro r; exact hst0 _ _
  case hbody =>
    intro k W hi hne
    have w24 : Fence.wide.fn 24 := trivial
    have hn2 : 1 ≤ n - 1 - 1 := by omega
    have hcall := CallsIn.inRound (n := n - 1 - 1 - 1) (w.heap.size + 7 + 1) (callsIn_wide.2 (pg hs hi hne))
    have c5 := hi.1.b5.cell
    rw [hz0]
    by_cases he : (bb (bH s k) (bQ s k)).2 = 0
    · gi_wp2_with (gi_at_call 24; refine hcall.mono ?_; rintro e W2 ⟨⟨rfl, hp, hbx, hhs⟩, hd, hl⟩; have c6 := hp.b6.cell; have f6 := hp.b6.frozen)
      exact tE hp hbx hhs hi.2.2.2 hne he hd hl
    · gi_wp2_with (first | (gi_at_call 24; refine hcall.mono ?_; rintro e W2 ⟨⟨rfl, hp, hbx, hhs⟩, hd, hl⟩) | (refine gT rfl 29 (.tmp 2) (.tmp 25) rfl w.heap.size zmC rfl rfl 29 zmC hp.b2 (by kernel_rfl) rfl zm1 hp.b3 hp.b4 ?_; rintro W3 ⟨hc3, c3, f3, c4, f4⟩))
      obtain ⟨g1, g2⟩ := tI (W := W) hp hi.2.2.2 he hd hl hc3
      exact ⟨g1, rfl, g2⟩
  case hdone =>
    intro k W hf hi hD
    rw [hz0] at hD
    have c5 := hi.1.b5.cell
    have c6 := hi.1.b6.cell
    obtain ⟨v1, v2, v5, v6, v7, hR, ho, hdat⟩ := rj hi.2.2.1
    have d8 : W.cell? ⟨w.heap.size + 3, 8, none⟩ = some (.int .i64 ((bH s k).rd : Int)) := bn hR 8
    have d9 : W.cell? ⟨w.heap.size + 3, 9, none⟩ = some (.int .i64 (bH s k).lf) := bn hR 9
    have d0 : W.cell? ⟨w.heap.size + 3, 0, none⟩ = some (.string ⟨(bH s k).nm.toArray⟩) := bn hR 0
    have d1 : W.cell? ⟨w.heap.size + 3, 1, none⟩ = some v1 := bn hR 1
    have d2 : W.cell? ⟨w.heap.size + 3, 2, none⟩ = some v2 := bn hR 2
    have d3 : W.cell? ⟨w.heap.size + 3, 3, none⟩ = some (.int .i64 (bH s k).inp) := bn hR 3
    have d4 : W.cell? ⟨w.heap.size + 3, 4, none⟩ = some (.int .i64 (bH s k).st) := bn hR 4
    have d5 : W.cell? ⟨w.heap.size + 3, 5, none⟩ = some v5 := bn hR 5
    have d6 : W.cell? ⟨w.heap.size + 3, 6, none⟩ = some v6 := bn hR 6
    rw [hz0]
    have hps := hi.1
    have hend := uc hbig hi.2.2.2 hf
    have b2 := hps.b2
    have h6d : Boxed W.drew (w.heap.size + 5) 3 (.int .i64 (k : Int)) := hps.b6
    have c6d : W.drew.cell? ⟨w.heap.size + 1 + 1 + 1 + 1 + 1, 0, none⟩ = some (.int .i64 (k : Int)) := h6d.cell
    have hkl : k ≤ 1048576 := by have := (kq (by omega : s.length ≤ 1048576) hi.2.2.2).2.2; omega
    by_cases hfin : (bH s k).rd < 5 ∨ ((5 : Int) ≤ ((bH s k).rd : Int) ∧ 0 < (bH s k).lf)
    · rcases hfin with hrd | ⟨hrd, hlf⟩
      all_goals gi_wp2
      all_goals
        (refine wpIn_mono (Q := fun e a' W' => match e with | .normal => (a'.defers = [{ target := .collected (w.heap.size + 7), args := #[] }] ∧ a'.tmps.getD 2 undef = .pointer (some ⟨w.heap.size, 0, none⟩) ∧ a'.tmps.getD 3 undef = .pointer (some ⟨w.heap.size + 1, 0, none⟩) ∧ a'.tmps.getD 4 undef = .pointer (some ⟨w.heap.size + 2, 0, none⟩)) ∧ R13 w k W W' | _ => False) ?_ ?_
         · refine wpIn_region_any (by kernel_rfl) ?_
           refine wpAnyIn_take (i := 0) (v := .agg zmC) rfl rfl (by kernel_rfl) (by kernel_rfl) (by kernel_rfl) (fun _ _ _ h => h) ⟨Or.inl ⟨by rfl, ?_⟩, fun _ => rfl⟩ ?_
           · intro w'; go_simp; rfl
           refine wpAnyIn_ready (rs := [1, 3]) (by kernel_rfl) (by simp) ?_
           refine AllReadyIn.cons rfl (fun K hK => ?_) (AllReadyIn.cons rfl (fun K hK => ?_) AllReadyIn.nil)
           · go_simp
             refine hK _ _ ?_
             refine wpAnyIn_take (i := 2) (v := .int .i64 ((k : Int) + 1)) rfl rfl (by kernel_rfl) (by kernel_rfl) (by kernel_rfl) (fun _ _ _ h => h) ⟨Or.inl ⟨by rfl, ?_⟩, fun _ => rfl⟩ ?_
             · intro w'; go_simp; rw [IntKind.wrap_i64]; omega
             refine wpAnyIn_ready (rs := [3]) (by kernel_rfl) (by simp) ?_
             refine AllReadyIn.cons rfl (fun K hK => ?_) AllReadyIn.nil
             refine jO 29 (.tmp 2) (.tmp 41) rfl w.heap.size zmC rfl rfl 29 zmC (show W.drew.heap[w.heap.size]? = _ from b2) (by kernel_rfl) rfl zm1 ?_
             intro W3 hc3 hg3
             refine hK _ _ ?_
             have m3 := hc3.boxed (show Boxed W.drew (w.heap.size + 1) 3 (.int .i64 0) from hps.b3) (by omega)
             have m4 := hc3.boxed (show Boxed W.drew (w.heap.size + 2) 32 (.int .i64 0) from hps.b4) (by omega)
             have m6 := hc3.boxed h6d (by omega)
             have e3 := m3.cell; have f3 := m3.frozen
             have e4 : W3.cell? ⟨w.heap.size + 1 + 1, 0, none⟩ = some (.int .i64 0) := m4.cell
             have f4 : W3.frozen? ⟨w.heap.size + 1 + 1, 0, none⟩ = false := m4.frozen
             have e6 : W3.cell? ⟨w.heap.size + 1 + 1 + 1 + 1 + 1, 0, none⟩ = some (.int .i64 (k : Int)) := m6.cell
             refine wpAnyIn_ready (rs := [4]) (by kernel_rfl) (by simp) ?_
             refine AllReadyIn.cons rfl (fun K hK => ?_) AllReadyIn.nil
             go_simp
             refine hK _ _ ?_
             refine wpAnyIn_ready (rs := [5]) (by kernel_rfl) (by simp) ?_
             refine AllReadyIn.cons rfl (fun K hK => ?_) AllReadyIn.nil
             go_simp
             refine hK _ _ ?_
             refine wpAnyIn_done (by kernel_rfl) ?_ _
             exact ⟨⟨rfl, rfl, rfl, rfl⟩, qv hps hc3 hg3 m3 m4⟩
           · refine jO 29 (.tmp 2) (.tmp 41) rfl w.heap.size zmC rfl rfl 29 zmC (show W.drew.heap[w.heap.size]? = _ from b2) (by kernel_rfl) rfl zm1 ?_
             intro W3 hc3 hg3
             refine hK _ _ ?_
             have m3 := hc3.boxed (show Boxed W.drew (w.heap.size + 1) 3 (.int .i64 0) from hps.b3) (by omega)
             have m4 := hc3.boxed (show Boxed W.drew (w.heap.size + 2) 32 (.int .i64 0) from hps.b4) (by omega)
             have m6 := hc3.boxed h6d (by omega)
             have e3 := m3.cell; have f3 := m3.frozen
             have e4 : W3.cell? ⟨w.heap.size + 1 + 1, 0, none⟩ = some (.int .i64 0) := m4.cell
             have f4 : W3.frozen? ⟨w.heap.size + 1 + 1, 0, none⟩ = false := m4.frozen
             have e6 : W3.cell? ⟨w.heap.size + 1 + 1 + 1 + 1 + 1, 0, none⟩ = some (.int .i64 (k : Int)) := m6.cell
             refine wpAnyIn_ready (rs := [1]) (by kernel_rfl) (by simp) ?_
             refine AllReadyIn.cons rfl (fun K hK => ?_) AllReadyIn.nil
             go_simp
             refine hK _ _ ?_
             refine wpAnyIn_take (i := 2) (v := .int .i64 ((k : Int) + 1)) rfl rfl (by kernel_rfl) (by kernel_rfl) (by kernel_rfl) (fun _ _ _ h => h) ⟨Or.inl ⟨by rfl, ?_⟩, fun _ => rfl⟩ ?_
             · intro w'; go_simp; rw [IntKind.wrap_i64]; omega
             refine wpAnyIn_ready (rs := [4]) (by kernel_rfl) (by simp) ?_
             refine AllReadyIn.cons rfl (fun K hK => ?_) AllReadyIn.nil
             go_simp
             refine hK _ _ ?_
             refine wpAnyIn_ready (rs := [5]) (by kernel_rfl) (by simp) ?_
             refine AllReadyIn.cons rfl (fun K hK => ?_) AllReadyIn.nil
             go_simp
             refine hK _ _ ?_
             refine wpAnyIn_done (by kernel_rfl) ?_ _
             exact ⟨⟨rfl, rfl, rfl, rfl⟩, qv hps hc3 hg3 m3 m4⟩
         · intro e a' W' h
           cases e with
           | normal =>
             obtain ⟨⟨hdf, t2, t3, t4⟩, ⟨z1, z2, z3, z4, z5⟩, g2, g3, g4⟩ := h
             obtain ⟨tm, df⟩ := a'
             simp only at hdf
             subst hdf
             have hsz := hps.sz
             have hpm : PM s = (oq, (k : Int) + 1, 12) := by rw [hend]; unfold mX; rw [if_pos (by first | exact .inl hrd | exact .inr hlf)]
             have hbl : Below w.heap.size w W' := ⟨z2.trans hps.bl.os, z3.trans hps.bl.tape, z4.trans hps.bl.output, Nat.le_trans hps.bl.size z1, fun b hb => (z5 b (by omega) (by omega) (by omega) (by omega)).trans (hps.bl.block b hb)⟩
             have hD2 : W'.heap[w.heap.size + 7]? = some (.deferred (some [])) := (z5 _ (by omega) (by omega) (by omega) (by omega)).trans hD
             clear hend c6 c6d d0 d1 d2 d3 d4 d5 d6 d8 d9 hR b2
             gi_wp2
             refine lN t2 t3 t4 hbl g2 g3 g4 hD2 (by rw [hpm]) ?_
             rw [hpm]
             exact fun W' _ _ C L σ _ => ⟨⟨rfl, rfl⟩, ⟨rfl, bJ _⟩, ⟨rfl, bJ _⟩, ⟨rfl, rfl⟩, ⟨rfl, rfl⟩, ⟨rfl, bJ _⟩, ⟨rfl, bJ _⟩, trivial⟩
           | ret => exact h.elim
           | exit id => exact h.elim
           | goto t => exact h.elim
           | panic c => exact h.elim
           | outgrown => exact h.elim)
    · have hrd : (5 : Int) ≤ ((bH s k).rd : Int) := by omega
      have hlf : (bH s k).lf ≤ 0 := by omega
      have hri := kq (by omega : s.length ≤ 1048576) hi.2.2.2
      have htb := (hri.1.t4 (by omega)).1
      obtain ⟨a1, a2, a5, a6⟩ := hdat htb
      have hpm : PM s = (sx (bH s k), 0, 0) := by rw [hend]; unfold mX; rw [if_neg (by omega)]
      clear hend
      gi_wp2_with (refine gT rfl 29 (.tmp 2) (.tmp 47) rfl w.heap.size #[.string ⟨(bH s k).nm.toArray⟩, v1, v2, .int .i64 (bH s k).inp, .int .i64 (bH s k).st, v5, v6] rfl rfl 29 zmC b2 (by kernel_rfl) rfl (by simpa [Value.oneCell'] using ho) hps.b3 hps.b4 ?_; rintro W3 ⟨hc3, c3, f3, c4, f4⟩)
      obtain ⟨Wf, hWf, z1, z2, z3, z4, z5, z6, z7⟩ := uQ (i := 0) (er := 0) hps hc3 hD
      rw [hWf]
      refine lN rfl rfl rfl z1 z2 z3 z4 z5 (by rw [hpm]) ?_
      rw [hpm]
      intro W' y1 y2 C L σ hav
      have hk : ∀ {t : Ty} {d : t.den} {cs : List Value}, Dat (XP w.heap.size) W t d cs → Dat (avd C L σ) W' t d cs := fun h => h.keep (Nat.le_trans z6 y1) (fun b hb hx => (y2 b (Nat.lt_of_lt_of_le hb z6) hx).trans (z7 b hb hx)) fun b _ hb => ⟨by have := hav b hb; omega, by have := hav b hb; omega⟩
      exact ⟨⟨rfl, rfl⟩, ⟨ho.1, hk a1⟩, ⟨ho.2.1, hk a2⟩, ⟨rfl, rfl⟩, ⟨rfl, rfl⟩, ⟨ho.2.2.1, hk a5⟩, ⟨ho.2.2.2, hk a6⟩, trivial⟩
  case hstop =>
    rintro c k W hf ⟨rfl, hx⟩ hD
    rw [hz0] at hD ⊢
    gi_wp2
    have hpm := tR hbig hx.ok hf hx.e0
    refine lN rfl rfl rfl hx.bl hx.b2 hx.b3 hx.b4 hD (by rw [hpm]) ?_
    rw [hpm]
    exact fun W' _ _ C L σ _ => ⟨⟨rfl, rfl⟩, ⟨rfl, bJ _⟩, ⟨rfl, bJ _⟩, ⟨rfl, rfl⟩, ⟨rfl, rfl⟩, ⟨rfl, bJ _⟩, ⟨rfl, bJ _⟩, trivial⟩
theorem eh (s : Bs) (hs : s.length ≤ 900000) : bE Tryd.prog 11 [.one (.str s)] (.tup [(PM s).1.av, .one (.int .i64 (PM s).2.1), .one (.int .i64 (PM s).2.2)]) := by
  refine ⟨⟨Tryd.f11, Tryd.func11, by kernel_rfl, by kernel_rfl⟩, fun C L σ w vs hP hI ha => ?_⟩
  match vs, ha with
  | [v], ⟨h1, _⟩ =>
  obtain rfl : v = .string ⟨s.toArray⟩ := h1.2
  refine (callsIn_wide.1 (qi 6 (Nat.le_refl _) s hs w)).mono ?_
  rintro e w' ⟨us, h2, h3, h4⟩
  have hx : ∀ b, avd C L σ b → b < w.heap.size := by
    rintro b (hx | ⟨o, ho⟩)
    · exact Nat.lt_of_lt_of_le (hI.xlt b hx) hI.size
    · exact eM hI ho
  exact ⟨_, h2, ⟨h3.size, h3.os, h3.tape, h3.output, h3.block⟩, _, rfl, ⟨us, rfl, h4 C L σ hx⟩, ⟨rfl, rfl⟩, ⟨rfl, rfl⟩, trivial⟩
end
open Go.Shelf in
def Tryd.lays171_ren : Go.Shelf.Ren := ⟨fun | 171 => 27 | 243 => 42 | 246 => 54 | 283 => 74 | 284 => 75 | 285 => 76 | 286 => 77 | 129 => 67 | 317 => 89 | 318 => 90 | 319 => 91 | 320 => 92 | 337 => 99 | 338 => 100 | n => n, fun | 3 => 3 | 9 => 9 | 2 => 2 | 4 => 4 | 171 => 114 | 0 => 0 | 53 => 109 | 37 => 64 | 5 => 5 | 173 => 116 | 212 => 131 | 51 => 107 | 20 => 20 | 213 => 132 | 46 => 88 | 232 => 147 | 233 => 148 | n => n, fun | 17 => 1 | 18 => 4 | 19 => 5 | n => n⟩
theorem Tryd.lays171 : Go.Proofs.Lays.n171 Tryd.prog Tryd.lays171_ren := {
  mixed := by kernel_rfl,
  f129 := Tryd.func67.trans (congrArg some (by kernel_rfl)),
  f171 := Tryd.func27.trans (congrArg some (by kernel_rfl)),
  f243 := Tryd.func42.trans (congrArg some (by kernel_rfl)),
  f246 := Tryd.func54.trans (congrArg some (by kernel_rfl)),
  f283 := Tryd.func74.trans (congrArg some (by kernel_rfl)),
  f284 := Tryd.func75.trans (congrArg some (by kernel_rfl)),
  f285 := Tryd.func76.trans (congrArg some (by kernel_rfl)),
  f286 := Tryd.func77.trans (congrArg some (by kernel_rfl)),
  f317 := Tryd.func89.trans (congrArg some (by kernel_rfl)),
  f318 := Tryd.func90.trans (congrArg some (by kernel_rfl)),
  f319 := Tryd.func91.trans (congrArg some (by kernel_rfl)),
  f320 := Tryd.func92.trans (congrArg some (by kernel_rfl)),
  f337 := Tryd.func99.trans (congrArg some (by kernel_rfl)),
  f338 := Tryd.func100.trans (congrArg some (by kernel_rfl)),
  t0 := Tryd.underlying0,
  a0 := Tryd.isAgg0,
  z0 := Tryd.sizeOf0,
  v0 := Tryd.zeroValue0,
  t2 := Tryd.underlying2,
  a2 := Tryd.isAgg2,
  z2 := Tryd.sizeOf2,
  v2 := Tryd.zeroValue2,
  t3 := Tryd.underlying3,
  a3 := Tryd.isAgg3,
  z3 := Tryd.sizeOf3,
  v3 := Tryd.zeroValue3,
  t4 := Tryd.underlying4,
  a4 := Tryd.isAgg4,
  z4 := Tryd.sizeOf4,
  v4 := Tryd.zeroValue4,
  t5 := Tryd.underlying5,
  a5 := Tryd.isAgg5,
  z5 := Tryd.sizeOf5,
  v5 := Tryd.zeroValue5,
  t9 := Tryd.underlying9,
  a9 := Tryd.isAgg9,
  z9 := Tryd.sizeOf9,
  v9 := Tryd.zeroValue9,
  t20 := Tryd.underlying20,
  a20 := Tryd.isAgg20,
  z20 := Tryd.sizeOf20,
  v20 := Tryd.zeroValue20,
  t37 := Tryd.underlying64,
  a37 := Tryd.isAgg64,
  z37 := Tryd.sizeOf64,
  v37 := Tryd.zeroValue64,
  t46 := Tryd.underlying88,
  a46 := Tryd.isAgg88,
  z46 := Tryd.sizeOf88,
  v46 := Tryd.zeroValue88,
  t51 := Tryd.underlying107,
  a51 := Tryd.isAgg107,
  z51 := Tryd.sizeOf107,
  v51 := Tryd.zeroValue107,
  t53 := Tryd.underlying109,
  a53 := Tryd.isAgg109,
  z53 := Tryd.sizeOf109,
  v53 := Tryd.zeroValue109,
  t171 := Tryd.underlying114,
  a171 := Tryd.isAgg114,
  z171 := Tryd.sizeOf114,
  v171 := Tryd.zeroValue114,
  t173 := Tryd.underlying116,
  a173 := Tryd.isAgg116,
  z173 := Tryd.sizeOf116,
  v173 := Tryd.zeroValue116,
  t212 := Tryd.underlying131,
  a212 := Tryd.isAgg131,
  z212 := Tryd.sizeOf131,
  v212 := Tryd.zeroValue131,
  t213 := Tryd.underlying132,
  a213 := Tryd.isAgg132,
  z213 := Tryd.sizeOf132,
  t232 := Tryd.underlying147,
  a232 := Tryd.isAgg147,
  z232 := Tryd.sizeOf147,
  v232 := Tryd.zeroValue147,
  t233 := Tryd.underlying148,
  a233 := Tryd.isAgg148,
  z233 := Tryd.sizeOf148,
  v233 := Tryd.zeroValue148,
  g17 := by kernel_rfl,
  g18 := by kernel_rfl,
  g19 := by kernel_rfl }
theorem tN (n : Int) (h0 : 0 ≤ n) (h1 : n < 100) : bE Tryd.prog 27 [.one (.int .i64 n)] (.one (.str (Lib.decDigits n.toNat))) := by
  refine ⟨⟨Tryd.f27, Tryd.func27, by kernel_rfl, by kernel_rfl⟩, fun C L σ w vs hP hi ha => ?_⟩
  cases vs with
  | nil => exact ha.elim
  | cons v vs =>
  cases vs with
  | cons _ _ => exact ha.2.elim
  | nil =>
  have e1 : v = .int .i64 n := ha.1.2
  subst e1
  have h := Any.strconv_Itoa_small Tryd.lays171 n.toNat (by omega) w
  have e : ((n.toNat : Nat) : Int) = n := Int.toNat_of_nonneg h0
  rw [e] at h
  refine Calls.mono h fun e w' hh => ?_
  obtain ⟨e1, e2⟩ := hh
  subst e2
  exact ⟨_, e1, MORE.refl _, rfl, rfl⟩
theorem lm (n : Int) (h0 : 0 ≤ n) (h1 : n < 100) : bE Tryd.prog 16 [.one (.int .i64 n)] (.one (.str (qn n.toNat))) := by
 have hl := o9 n.toNat (by omega)
 refine aO Tryd.func16 rfl (by kernel_rfl) (Nat.le_of_ble_eq_true rfl) rfl fun C hP hN hB => ?_
 replace hN : C.N = 6 := hN
 simp only [aS, E]
 refine ab fun _ k1 => ?_
 refine ae hP hN rfl ?_
 (refine aa rfl fun _ k0 => ?_; simp only [zO, zT, acs, reduceCtorEq, M, E, O, Z, Y, V]; (repeat refine an ?_); (try refine .inl ?_); apply k0; clear k0; simp only [zP, E])
 refine ad ?_
 apply k1; clear k1; refine kp [0, 2] ?_
 refine ab fun _ k2 => ?_
 refine ae hP hN rfl ?_
 (refine aa rfl fun _ k0 => ?_; simp only [zO, zT, acs, reduceCtorEq, M, E, O, Z, Y, V, ah, aq]; (repeat refine an ?_); (try refine .inl ?_); apply k0; clear k0; simp only [zP, E])
 refine aa rfl fun _ k0 => ?_
 refine ay (h := ak (tN n h0 h1)) rfl rfl (by first | exact rfl | (simp only [ev, zP, M, E]; exact rfl)) (by simp only [zV, acs, reduceCtorEq, M, E, O, Z, Y, V, ah, aq]) ?_
 apply k0; clear k0; simp only [zP, E]
 iterate 2 (refine aa rfl fun _ k0 => ?_; simp only [zO, zT, acs, reduceCtorEq, M, E, O, Z, Y, V, ah, aq]; (repeat refine an ?_); (try refine .inl ?_); apply k0; clear k0; simp only [zP, E])
 refine ad ?_
 apply k2; clear k2; refine kp [0, 2] ?_
 refine ar ?_
 refine ⟨nr, _, rfl, ?_⟩; simp only [zF, zP, M, E]
 refine VLE.of_eq ?_
 rfl
theorem tP (xs : List Int) (h0 : 0 < xs.length) : bE Tryd.prog 22 [.one (.list (.int .i64) xs)] (.one (.int .i64 (mxL xs))) := by
 refine aO Tryd.func22 rfl (by kernel_rfl) (Nat.le_of_ble_eq_true rfl) rfl fun C hP hN hB => ?_
 replace hN : C.N = 25 := hN
 simp only [aS, E]
 refine fV 0 rfl fun hf0 => ?_; simp only [lkp, if_true, if_false, reduceCtorEq, M, eq_self, Nat.one_ne_zero, Nat.zero_ne_one, li, jG, jP, Fit, and_true, implies_true, true_and] at hf0
 refine ab fun _ k1 => ?_
 refine ae hP hN rfl ?_
 (refine aa rfl fun _ k0 => ?_; simp only [zO, zT, acs, reduceCtorEq, M, E, O, Z, Y, V]; (repeat refine an ?_); (try refine .inl ?_); apply k0; clear k0; simp only [zP, E])
 refine ad ?_
 apply k1; clear k1; refine kp [0, 2] ?_
 refine ab fun _ k2 => ?_
 refine ab fun _ k3 => ?_
 refine ae hP hN rfl ?_
 iterate 3 (refine aa rfl fun _ k0 => ?_; simp only [zO, zT, acs, reduceCtorEq, M, E, O, Z, Y, V]; (repeat refine an ?_); (try refine .inl ?_); apply k0; clear k0; simp only [zP, E])
 refine ad ?_
 apply k3; clear k3; refine kp [0, 2, 7] ?_
 refine cd (fun hc4 => ?_) (fun hc4 => ?_)
 · exfalso; (try simp only [zB, reduceCtorEq] at hc4); all_goals (first | (cases hc4; done) | omega | (simp at hc4; done) | (simp_all; done))
 (try simp only [zB, reduceCtorEq] at hc4)
 refine au ?_
 apply k2; clear k2; refine kp [0, 2, 7] ?_
 refine ab fun _ k5 => ?_
 refine ae hP hN rfl ?_
 iterate 4 (refine aa rfl fun _ k0 => ?_; simp only [zO, zT, acs, reduceCtorEq, M, E, O, Z, Y, V]; (repeat refine an ?_); (try refine .inl ?_); apply k0; clear k0; simp only [zP, E])
 refine ad ?_
 apply k5; clear k5; refine kp [0, 2, 3, 7] ?_
 refine ab fun _ k6 => ?_
 refine ab fun _ k7 => ?_
 refine ae hP hN rfl ?_
 (refine aa rfl fun _ k0 => ?_; simp only [zO, zT, acs, reduceCtorEq, M, E, O, Z, Y, V]; (repeat refine an ?_); (try refine .inl ?_); apply k0; clear k0; simp only [zP, E])
 refine ad ?_
 apply k7; clear k7; refine kp [0, 2, 3, 4, 7] ?_
 refine az ?_
 refine bm (fun n8 s8 => ∃ (k : Nat), (1 ≤ k) ∧ (k ≤ xs.length) ∧ n8 = xs.length - k ∧ s8 = { env := [(0, .one (.list (.int .i64) xs)), (3, .one (.int .i64 ((xs.take k).foldl max (xs.getD 0 0)))), (4, .one (.int .i64 (k : Int)))], L := [] }) ?_ ?_
 ·refine ⟨_, _, aE [0, 3, 4], 1, Nat.le_refl _, h0, rfl, ?_⟩
  rw [tF h0]; rfl
 rintro n8 s8 ⟨k, hk1, hk, rfl, rfl⟩
 refine ab fun _ k9 => ?_
 refine ab fun _ k10 => ?_
 refine ae hP hN rfl ?_
 iterate 4 (refine aa rfl fun _ k0 => ?_; simp only [zO, zT, acs, reduceCtorEq, M, E, O, Z, Y, V]; (repeat refine an ?_); (try refine .inl ?_); apply k0; clear k0; simp only [zP, E])
 refine ad ?_
 apply k10; clear k10; refine kp [0, 3, 4, 15] ?_
 refine cd (fun hc11 => ?_) (fun hc11 => ?_)
 ·(try simp only [zB, reduceCtorEq] at hc11)
  refine au ?_
  apply k9; clear k9; refine kp [0, 3, 4, 15] ?_
  refine ab fun _ k12 => ?_
  refine az ?_
  refine ae hP hN rfl ?_
  iterate 7 (refine aa rfl fun _ k0 => ?_; simp only [zO, zT, acs, reduceCtorEq, M, E, O, Z, Y, V]; (repeat refine an ?_); (try refine .inl ?_); apply k0; clear k0; simp only [zP, E])
  refine ad ?_
  apply k12; clear k12; refine kp [0, 3, 4, 15] ?_
  refine ae hP hN rfl ?_
  iterate 3 (refine aa rfl fun _ k0 => ?_; simp only [zO, zT, acs, reduceCtorEq, M, E, O, Z, Y, V]; (repeat refine an ?_); (try refine .inl ?_); apply k0; clear k0; simp only [zP, E])
  refine ad ?_
  refine ⟨_, _, ?_, aE [0, 3, 4], k + 1, by omega, by omega, rfl, ?_⟩
  · omega
  · rw [np (by omega), List.foldl_append]; rfl
 (try simp only [zB, reduceCtorEq] at hc11)
 refine bg ?_
 apply k6; clear k6; refine kp [0, 3, 4, 15] ?_
 refine ab fun _ k13 => ?_
 refine ae hP hN rfl ?_
 iterate 2 (refine aa rfl fun _ k0 => ?_; simp only [zO, zT, acs, reduceCtorEq, M, E, O, Z, Y, V]; (repeat refine an ?_); (try refine .inl ?_); apply k0; clear k0; simp only [zP, E])
 refine ad ?_
 apply k13; clear k13; refine kp [0, 2, 3, 4, 15] ?_
 refine ar ?_
 refine ⟨nr, _, rfl, ?_⟩; simp only [zF, zP, M, E]
 refine VLE.of_eq ?_
 refine congrArg (fun n => AV.one (AC.int IntKind.i64 n)) ?_
 rw [show k = xs.length by omega, aG]; rfl
open Go.Shelf in
def Tryd.laysNm220_ren : Go.Shelf.Ren := ⟨fun | 20 => 33 | n => n, fun | 22 => 44 | 3 => 3 | 4 => 4 | 0 => 0 | n => n, fun | n => n⟩
theorem Tryd.laysNm220 : Go.Proofs.Lays2.n20 Tryd.prog Tryd.laysNm220_ren := {
  mixed := by kernel_rfl,
  f20 := Tryd.func33.trans (congrArg some (by kernel_rfl)),
  t0 := Tryd.underlying0,
  a0 := Tryd.isAgg0,
  z0 := Tryd.sizeOf0,
  v0 := Tryd.zeroValue0,
  t3 := Tryd.underlying3,
  a3 := Tryd.isAgg3,
  z3 := Tryd.sizeOf3,
  v3 := Tryd.zeroValue3,
  t4 := Tryd.underlying4,
  a4 := Tryd.isAgg4,
  z4 := Tryd.sizeOf4,
  v4 := Tryd.zeroValue4,
  t22 := Tryd.underlying44,
  a22 := Tryd.isAgg44,
  z22 := Tryd.sizeOf44,
  v22 := Tryd.zeroValue44,
  i3 := by kernel_rfl }
theorem o4 : mR Tryd.prog 33 := ⟨⟨Tryd.f33, Tryd.func33, by kernel_rfl, by kernel_rfl⟩, fun blk off cap zs w hH hb hz => Any.slices_Compact_int Tryd.laysNm220 blk off cap zs w hH hb hz⟩
open Go.Shelf in
def Tryd.lays189_ren : Go.Shelf.Ren := ⟨fun | 189 => 32 | 125 => 47 | 257 => 46 | 128 => 66 | 129 => 67 | 294 => 57 | 295 => 58 | 296 => 59 | 297 => 60 | 298 => 61 | 299 => 62 | 216 => 63 | 300 => 64 | 301 => 65 | 328 => 78 | 329 => 79 | 330 => 80 | 331 => 81 | 332 => 82 | 215 => 83 | 343 => 93 | n => n, fun | 28 => 44 | 3 => 3 | 46 => 88 | 0 => 0 | 51 => 107 | 53 => 109 | 4 => 4 | 183 => 100 | 182 => 99 | 131 => 91 | 5 => 5 | 9 => 9 | 218 => 118 | 222 => 122 | 228 => 133 | 229 => 134 | n => n, fun | n => n⟩
theorem Tryd.lays189 : Go.Proofs.Lays.n189 Tryd.prog Tryd.lays189_ren := {
  mixed := by kernel_rfl,
  f125 := Tryd.func47.trans (congrArg some (by kernel_rfl)),
  f128 := Tryd.func66.trans (congrArg some (by kernel_rfl)),
  f129 := Tryd.func67.trans (congrArg some (by kernel_rfl)),
  f189 := Tryd.func32.trans (congrArg some (by kernel_rfl)),
  f215 := Tryd.func83.trans (congrArg some (by kernel_rfl)),
  f216 := Tryd.func63.trans (congrArg some (by kernel_rfl)),
  f257 := Tryd.func46.trans (congrArg some (by kernel_rfl)),
  f294 := Tryd.func57.trans (congrArg some (by kernel_rfl)),
  f295 := Tryd.func58.trans (congrArg some (by kernel_rfl)),
  f296 := Tryd.func59.trans (congrArg some (by kernel_rfl)),
  f297 := Tryd.func60.trans (congrArg some (by kernel_rfl)),
  f298 := Tryd.func61.trans (congrArg some (by kernel_rfl)),
  f299 := Tryd.func62.trans (congrArg some (by kernel_rfl)),
  f300 := Tryd.func64.trans (congrArg some (by kernel_rfl)),
  f301 := Tryd.func65.trans (congrArg some (by kernel_rfl)),
  f328 := Tryd.func78.trans (congrArg some (by kernel_rfl)),
  f329 := Tryd.func79.trans (congrArg some (by kernel_rfl)),
  f330 := Tryd.func80.trans (congrArg some (by kernel_rfl)),
  f331 := Tryd.func81.trans (congrArg some (by kernel_rfl)),
  f332 := Tryd.func82.trans (congrArg some (by kernel_rfl)),
  f343 := Tryd.func93.trans (congrArg some (by kernel_rfl)),
  t0 := Tryd.underlying0,
  a0 := Tryd.isAgg0,
  z0 := Tryd.sizeOf0,
  v0 := Tryd.zeroValue0,
  t3 := Tryd.underlying3,
  a3 := Tryd.isAgg3,
  z3 := Tryd.sizeOf3,
  v3 := Tryd.zeroValue3,
  t4 := Tryd.underlying4,
  a4 := Tryd.isAgg4,
  z4 := Tryd.sizeOf4,
  v4 := Tryd.zeroValue4,
  t5 := Tryd.underlying5,
  a5 := Tryd.isAgg5,
  z5 := Tryd.sizeOf5,
  v5 := Tryd.zeroValue5,
  t9 := Tryd.underlying9,
  a9 := Tryd.isAgg9,
  z9 := Tryd.sizeOf9,
  v9 := Tryd.zeroValue9,
  t28 := Tryd.underlying44,
  a28 := Tryd.isAgg44,
  z28 := Tryd.sizeOf44,
  v28 := Tryd.zeroValue44,
  t46 := Tryd.underlying88,
  a46 := Tryd.isAgg88,
  z46 := Tryd.sizeOf88,
  v46 := Tryd.zeroValue88,
  t51 := Tryd.underlying107,
  a51 := Tryd.isAgg107,
  z51 := Tryd.sizeOf107,
  v51 := Tryd.zeroValue107,
  t53 := Tryd.underlying109,
  a53 := Tryd.isAgg109,
  z53 := Tryd.sizeOf109,
  v53 := Tryd.zeroValue109,
  t131 := Tryd.underlying91,
  a131 := Tryd.isAgg91,
  z131 := Tryd.sizeOf91,
  v131 := Tryd.zeroValue91,
  t182 := Tryd.underlying99,
  a182 := Tryd.isAgg99,
  z182 := Tryd.sizeOf99,
  v182 := Tryd.zeroValue99,
  t183 := Tryd.underlying100,
  a183 := Tryd.isAgg100,
  z183 := Tryd.sizeOf100,
  v183 := Tryd.zeroValue100,
  t218 := Tryd.underlying118,
  a218 := Tryd.isAgg118,
  z218 := Tryd.sizeOf118,
  v218 := Tryd.zeroValue118,
  t222 := Tryd.underlying122,
  a222 := Tryd.isAgg122,
  z222 := Tryd.sizeOf122,
  v222 := Tryd.zeroValue122,
  t228 := Tryd.underlying133,
  a228 := Tryd.isAgg133,
  z228 := Tryd.sizeOf133,
  v228 := Tryd.zeroValue133,
  t229 := Tryd.underlying134,
  a229 := Tryd.isAgg134,
  z229 := Tryd.sizeOf134,
  v229 := Tryd.zeroValue134 }
theorem tx : t9 Tryd.prog 32 := ⟨⟨Tryd.f32, Tryd.func32, by kernel_rfl, by kernel_rfl⟩, fun blk off cap zs w hH hb hz => Any.slices_Sort_int Tryd.lays189 blk off cap zs w hH hb hz⟩
theorem o8 (m : Mly) : bE Tryd.prog 20 [m.av] (.one (.int .i64 (bB m))) := by
 refine aO Tryd.func20 rfl (by kernel_rfl) (Nat.le_of_ble_eq_true rfl) rfl fun C hP hN hB => ?_
 replace hN : C.N = 104 := hN
 simp only [aS, E]
 refine ab fun _ k1 => ?_
 refine ae hP hN rfl ?_
 iterate 2 (refine aa rfl fun _ k0 => ?_; simp only [zO, zT, acs, reduceCtorEq, M, E, O, Z, Y, V, Mly.av]; (repeat refine an ?_); (try refine .inl ?_); apply k0; clear k0; simp only [zP, E])
 refine ad ?_
 apply k1; clear k1; refine kp [0, 1, 2] ?_
 refine ab fun _ k2 => ?_
 refine ae hP hN rfl ?_
 iterate 4 (refine aa rfl fun _ k0 => ?_; simp only [zO, zT, acs, reduceCtorEq, M, E, O, Z, Y, V, Mly.av]; (repeat refine an ?_); (try refine .inl ?_); apply k0; clear k0; simp only [zP, E])
 refine ad ?_
 apply k2; clear k2; refine kp [0, 1, 2, 3] ?_
 refine ab fun _ k3 => ?_
 refine az ?_
 refine ab fun _ k4 => ?_
 refine ae hP hN rfl ?_
 iterate 4 (refine aa rfl fun _ k0 => ?_; simp only [zO, zT, acs, reduceCtorEq, M, E, O, Z, Y, V, Mly.av]; (repeat refine an ?_); (try refine .inl ?_); apply k0; clear k0; simp only [zP, E])
 refine' aw (want := false) 3 rfl (m := 15) (by simp only [zP, M, E]; exact rfl) (by kernel_rfl) rfl rfl rfl rfl rfl (fun hg5 => ?a5) ?b5 ?c5
 case a5 =>
  have hq5 := hg5; (try simp only [zB, reduceCtorEq] at hg5); simp only [zE]
  iterate 3 (refine aL rfl fun _ k0 => ?_; simp only [zO, zT, acs, reduceCtorEq, M, E, O, Z, Y, V, Mly.av]; (repeat refine an ?_); (try refine .inl ?_); apply k0; clear k0; simp only [zP, E])
  (refine aa rfl fun _ k0 => ?_; simp only [zO, zT, acs, reduceCtorEq, M, E, O, Z, Y, V, Mly.av]; (repeat refine an ?_); (try refine .inl ?_); apply k0; clear k0; simp only [zP, E])
  refine ad ?_
  refine ⟨by simp only [zP, M, E]; exact rfl, rfl, ?_, rfl⟩; (repeat refine ax rfl ?_); exact aM (by exact rfl) hq5
 case b5 => exact bj
 simp only [aJ, aC]
 (refine aa rfl fun _ k0 => ?_; simp only [zO, zT, acs, reduceCtorEq, M, E, O, Z, Y, V, Mly.av]; (repeat refine an ?_); (try refine .inl ?_); apply k0; clear k0; simp only [zP, E])
 refine ad ?_
 apply k4; clear k4; refine kp [0, 1, 2, 3, 11] ?_
 refine cd (fun hc6 => ?_) (fun hc6 => ?_)
 ·(try simp only [zB, reduceCtorEq] at hc6)
  refine ab fun _ k7 => ?_
  refine ae hP hN rfl ?_
  (refine aa rfl fun _ k0 => ?_; simp only [zO, zT, acs, reduceCtorEq, M, E, O, Z, Y, V, Mly.av]; (repeat refine an ?_); (try refine .inl ?_); apply k0; clear k0; simp only [zP, E])
  refine ad ?_
  apply k7; clear k7; refine kp [0, 1, 2, 3, 11] ?_
  refine ar ?_
  refine ⟨nr, _, rfl, ?_⟩; simp only [zF, zP, M, E, Mly.av]
  refine VLE.of_eq ?_
  refine congrArg (fun n => AV.one (AC.int IntKind.i64 n)) ?_
  symm
  unfold bB
  first
  | (rw [if_pos (by omega)]; done)
  | (rw [if_neg (by omega), if_pos (by omega)]; done)
  | (rw [if_neg (by omega), if_neg (by omega), if_pos (by omega)]; done)
  | (rw [if_neg (by omega), if_neg (by omega), if_neg (by omega), if_pos (by omega)]; done)
  | (rw [if_neg (by omega), if_neg (by omega), if_neg (by omega), if_neg (by omega), if_pos (by omega)]; done)
  | (rw [if_neg (by omega), if_neg (by omega), if_neg (by omega), if_neg (by omega), if_neg (by omega)]
     first
     | exact (bo hrows (by omega) (by rw [bD hc32.1 hc32.2 (j := j) (by omega) (by unfold aZ; omega)]; decide)).trans (bD hc32.1 hc32.2 (by omega) (by unfold aZ; omega))
     | exact (bo hrows (by omega) (by rw [bC hc32]; decide)).trans (bC hc32)
     | exact bT fun i hi => hrows i (by omega))
 (try simp only [zB, reduceCtorEq] at hc6)
 refine ab fun _ k8 => ?_
 refine ae hP hN rfl ?_
 iterate 3 (refine aa rfl fun _ k0 => ?_; simp only [zO, zT, acs, reduceCtorEq, M, E, O, Z, Y, V, Mly.av]; (repeat refine an ?_); (try refine .inl ?_); apply k0; clear k0; simp only [zP, E])
 refine ad ?_
 apply k8; clear k8; refine kp [0, 1, 2, 3, 11, 20] ?_
 refine cd (fun hc9 => ?_) (fun hc9 => ?_)
 ·(try simp only [zB, reduceCtorEq] at hc9)
  refine ab fun _ k10 => ?_
  refine ae hP hN rfl ?_
  (refine aa rfl fun _ k0 => ?_; simp only [zO, zT, acs, reduceCtorEq, M, E, O, Z, Y, V, Mly.av]; (repeat refine an ?_); (try refine .inl ?_); apply k0; clear k0; simp only [zP, E])
  refine ad ?_
  apply k10; clear k10; refine kp [0, 1, 2, 3, 11, 20] ?_
  refine ar ?_
  refine ⟨nr, _, rfl, ?_⟩; simp only [zF, zP, M, E, Mly.av]
  refine VLE.of_eq ?_
  refine congrArg (fun n => AV.one (AC.int IntKind.i64 n)) ?_
  symm
  unfold bB
  first
  | (rw [if_pos (by omega)]; done)
  | (rw [if_neg (by omega), if_pos (by omega)]; done)
  | (rw [if_neg (by omega), if_neg (by omega), if_pos (by omega)]; done)
  | (rw [if_neg (by omega), if_neg (by omega), if_neg (by omega), if_pos (by omega)]; done)
  | (rw [if_neg (by omega), if_neg (by omega), if_neg (by omega), if_neg (by omega), if_pos (by omega)]; done)
  | (rw [if_neg (by omega), if_neg (by omega), if_neg (by omega), if_neg (by omega), if_neg (by omega)]
     first
     | exact (bo hrows (by omega) (by rw [bD hc32.1 hc32.2 (j := j) (by omega) (by unfold aZ; omega)]; decide)).trans (bD hc32.1 hc32.2 (by omega) (by unfold aZ; omega))
     | exact (bo hrows (by omega) (by rw [bC hc32]; decide)).trans (bC hc32)
     | exact bT fun i hi => hrows i (by omega))
 (try simp only [zB, reduceCtorEq] at hc9)
 refine ab fun _ k11 => ?_
 refine ae hP hN rfl ?_
 iterate 3 (refine aa rfl fun _ k0 => ?_; simp only [zO, zT, acs, reduceCtorEq, M, E, O, Z, Y, V, Mly.av]; (repeat refine an ?_); (try refine .inl ?_); apply k0; clear k0; simp only [zP, E])
 refine ad ?_
 apply k11; clear k11; refine kp [0, 1, 2, 3, 11, 20, 23] ?_
 refine cd (fun hc12 => ?_) (fun hc12 => ?_)
 ·(try simp only [zB, reduceCtorEq] at hc12)
  refine ab fun _ k13 => ?_
  refine ae hP hN rfl ?_
  (refine aa rfl fun _ k0 => ?_; simp only [zO, zT, acs, reduceCtorEq, M, E, O, Z, Y, V, Mly.av]; (repeat refine an ?_); (try refine .inl ?_); apply k0; clear k0; simp only [zP, E])
  refine ad ?_
  apply k13; clear k13; refine kp [0, 1, 2, 3, 11, 20, 23] ?_
  refine ar ?_
  refine ⟨nr, _, rfl, ?_⟩; simp only [zF, zP, M, E, Mly.av]
  refine VLE.of_eq ?_
  refine congrArg (fun n => AV.one (AC.int IntKind.i64 n)) ?_
  symm
  unfold bB
  first
  | (rw [if_pos (by omega)]; done)
  | (rw [if_neg (by omega), if_pos (by omega)]; done)
  | (rw [if_neg (by omega), if_neg (by omega), if_pos (by omega)]; done)
  | (rw [if_neg (by omega), if_neg (by omega), if_neg (by omega), if_pos (by omega)]; done)
  | (rw [if_neg (by omega), if_neg (by omega), if_neg (by omega), if_neg (by omega), if_pos (by omega)]; done)
  | (rw [if_neg (by omega), if_neg (by omega), if_neg (by omega), if_neg (by omega), if_neg (by omega)]
     first
     | exact (bo hrows (by omega) (by rw [bD hc32.1 hc32.2 (j := j) (by omega) (by unfold aZ; omega)]; decide)).trans (bD hc32.1 hc32.2 (by omega) (by unfold aZ; omega))
     | exact (bo hrows (by omega) (by rw [bC hc32]; decide)).trans (bC hc32)
     | exact bT fun i hi => hrows i (by omega))
 (try simp only [zB, reduceCtorEq] at hc12)
 refine ab fun _ k14 => ?_
 refine ae hP hN rfl ?_
 iterate 4 (refine aa rfl fun _ k0 => ?_; simp only [zO, zT, acs, reduceCtorEq, M, E, O, Z, Y, V, Mly.av]; (repeat refine an ?_); (try refine .inl ?_); apply k0; clear k0; simp only [zP, E])
 refine' aw (want := false) 4 rfl (m := 30) (by simp only [zP, M, E]; exact rfl) (by kernel_rfl) rfl rfl rfl rfl rfl (fun hg15 => ?a15) ?b15 ?c15
 case a15 =>
  have hq15 := hg15; (try simp only [zB, reduceCtorEq] at hg15); simp only [zE]
  iterate 4 (refine aL rfl fun _ k0 => ?_; simp only [zO, zT, acs, reduceCtorEq, M, E, O, Z, Y, V, Mly.av]; (repeat refine an ?_); (try refine .inl ?_); apply k0; clear k0; simp only [zP, E])
  (refine aa rfl fun _ k0 => ?_; simp only [zO, zT, acs, reduceCtorEq, M, E, O, Z, Y, V, Mly.av]; (repeat refine an ?_); (try refine .inl ?_); apply k0; clear k0; simp only [zP, E])
  refine ad ?_
  refine ⟨by simp only [zP, M, E]; exact rfl, rfl, ?_, rfl⟩; (repeat refine ax rfl ?_); exact aM (by exact rfl) hq15
 case b15 => exact bj
 simp only [aJ, aC]
 (refine aa rfl fun _ k0 => ?_; simp only [zO, zT, acs, reduceCtorEq, M, E, O, Z, Y, V, Mly.av]; (repeat refine an ?_); (try refine .inl ?_); apply k0; clear k0; simp only [zP, E])
 refine ad ?_
 apply k14; clear k14; refine kp [0, 1, 2, 3, 11, 20, 23, 26] ?_
 refine cd (fun hc16 => ?_) (fun hc16 => ?_)
 ·(try simp only [zB, reduceCtorEq] at hc16)
  refine ab fun _ k17 => ?_
  refine ae hP hN rfl ?_
  (refine aa rfl fun _ k0 => ?_; simp only [zO, zT, acs, reduceCtorEq, M, E, O, Z, Y, V, Mly.av]; (repeat refine an ?_); (try refine .inl ?_); apply k0; clear k0; simp only [zP, E])
  refine ad ?_
  apply k17; clear k17; refine kp [0, 1, 2, 3, 11, 20, 23, 26] ?_
  refine ar ?_
  refine ⟨nr, _, rfl, ?_⟩; simp only [zF, zP, M, E, Mly.av]
  refine VLE.of_eq ?_
  refine congrArg (fun n => AV.one (AC.int IntKind.i64 n)) ?_
  symm
  unfold bB
  first
  | (rw [if_pos (by omega)]; done)
  | (rw [if_neg (by omega), if_pos (by omega)]; done)
  | (rw [if_neg (by omega), if_neg (by omega), if_pos (by omega)]; done)
  | (rw [if_neg (by omega), if_neg (by omega), if_neg (by omega), if_pos (by omega)]; done)
  | (rw [if_neg (by omega), if_neg (by omega), if_neg (by omega), if_neg (by omega), if_pos (by omega)]; done)
  | (rw [if_neg (by omega), if_neg (by omega), if_neg (by omega), if_neg (by omega), if_neg (by omega)]
     first
     | exact (bo hrows (by omega) (by rw [bD hc32.1 hc32.2 (j := j) (by omega) (by unfold aZ; omega)]; decide)).trans (bD hc32.1 hc32.2 (by omega) (by unfold aZ; omega))
     | exact (bo hrows (by omega) (by rw [bC hc32]; decide)).trans (bC hc32)
     | exact bT fun i hi => hrows i (by omega))
 (try simp only [zB, reduceCtorEq] at hc16)
 refine ab fun _ k18 => ?_
 refine ae hP hN rfl ?_
 iterate 6 (refine aa rfl fun _ k0 => ?_; simp only [zO, zT, acs, reduceCtorEq, M, E, O, Z, Y, V, Mly.av]; (repeat refine an ?_); (try refine .inl ?_); apply k0; clear k0; simp only [zP, E])
 refine ad ?_
 apply k18; clear k18; refine kp [0, 1, 2, 3, 11, 20, 23, 26, 36] ?_
 refine cd (fun hc19 => ?_) (fun hc19 => ?_)
 ·(try simp only [zB, reduceCtorEq] at hc19)
  refine ab fun _ k20 => ?_
  refine ae hP hN rfl ?_
  (refine aa rfl fun _ k0 => ?_; simp only [zO, zT, acs, reduceCtorEq, M, E, O, Z, Y, V, Mly.av]; (repeat refine an ?_); (try refine .inl ?_); apply k0; clear k0; simp only [zP, E])
  refine ad ?_
  apply k20; clear k20; refine kp [0, 1, 2, 3, 11, 20, 23, 26, 36] ?_
  refine ar ?_
  refine ⟨nr, _, rfl, ?_⟩; simp only [zF, zP, M, E, Mly.av]
  refine VLE.of_eq ?_
  refine congrArg (fun n => AV.one (AC.int IntKind.i64 n)) ?_
  symm
  unfold bB
  first
  | (rw [if_pos (by omega)]; done)
  | (rw [if_neg (by omega), if_pos (by omega)]; done)
  | (rw [if_neg (by omega), if_neg (by omega), if_pos (by omega)]; done)
  | (rw [if_neg (by omega), if_neg (by omega), if_neg (by omega), if_pos (by omega)]; done)
  | (rw [if_neg (by omega), if_neg (by omega), if_neg (by omega), if_neg (by omega), if_pos (by omega)]; done)
  | (rw [if_neg (by omega), if_neg (by omega), if_neg (by omega), if_neg (by omega), if_neg (by omega)]
     first
     | exact (bo hrows (by omega) (by rw [bD hc32.1 hc32.2 (j := j) (by omega) (by unfold aZ; omega)]; decide)).trans (bD hc32.1 hc32.2 (by omega) (by unfold aZ; omega))
     | exact (bo hrows (by omega) (by rw [bC hc32]; decide)).trans (bC hc32)
     | exact bT fun i hi => hrows i (by omega))
 (try simp only [zB, reduceCtorEq] at hc19)
 refine au ?_
 apply k3; clear k3; refine kp [0, 1, 2, 3, 11, 20, 23, 26, 36] ?_
 refine ab fun _ k21 => ?_
 refine ab fun _ k22 => ?_
 refine ae hP hN rfl ?_
 iterate 2 (refine aa rfl fun _ k0 => ?_; simp only [zO, zT, acs, reduceCtorEq, M, E, O, Z, Y, V, Mly.av]; (repeat refine an ?_); (try refine .inl ?_); apply k0; clear k0; simp only [zP, E])
 refine ad ?_
 apply k22; clear k22; refine kp [0, 1, 2, 3, 11, 20, 23, 26, 36, 42, 43] ?_
 refine az ?_
 refine bm (fun n23 s23 => ∃ (k : Nat), (k ≤ m.nx.length) ∧ (∀ i, i < k → gQ m i = 0) ∧ n23 = m.nx.length - k ∧ s23 = { env := [(1, .one (.ptr 0 0 0 0)), (3, .one (.int .i64 (m.nx.length : Int))), (42, .one (.int .i64 (m.nx.length : Int))), (43, .one (.int .i64 (k : Int)))], L := [.vars 27 [.int .i64 m.inp, .int .i64 m.st, .list (.list (.int .i64)) m.nx, .list (.list (.int .i64)) m.ot]] }) ?_ ?_
 ·exact ⟨_, _, aE [1, 3, 42, 43], 0, Nat.zero_le _, fun i hi => by omega, rfl, rfl⟩
 rintro n23 s23 ⟨k, hk, hrows, rfl, rfl⟩
 refine ab fun _ k24 => ?_
 refine ae hP hN rfl ?_
 (refine aa rfl fun _ k0 => ?_; simp only [zO, zT, acs, reduceCtorEq, M, E, O, Z, Y, V, Mly.av]; (repeat refine an ?_); (try refine .inl ?_); apply k0; clear k0; simp only [zP, E])
 refine ad ?_
 apply k24; clear k24; refine kp [1, 3, 42, 43, 44] ?_
 refine ab fun _ k25 => ?_
 refine cd (fun hc26 => ?_) (fun hc26 => ?_)
 ·(try simp only [zB, reduceCtorEq] at hc26)
  refine au ?_
  apply k25; clear k25; refine kp [1, 3, 42, 43, 44] ?_
  refine ab fun _ k27 => ?_
  refine az ?_
  refine ab fun _ k28 => ?_
  refine ae hP hN rfl ?_
  iterate 2 (refine aa rfl fun _ k0 => ?_; simp only [zO, zT, acs, reduceCtorEq, M, E, O, Z, Y, V, Mly.av]; (repeat refine an ?_); (try refine .inl ?_); apply k0; clear k0; simp only [zP, E])
  refine ad ?_
  apply k28; clear k28; refine kp [1, 3, 4, 42, 43, 44] ?_
  refine ab fun _ k29 => ?_
  refine ab fun _ k30 => ?_
  refine cw hP hN Tryd.mixed rfl ?_
  iterate 10 (refine aa rfl fun _ k0 => ?_; simp only [zO, zT, acs, reduceCtorEq, M, E, O, Z, Y, V, Mly.av]; (repeat refine an ?_); (try refine .inl ?_); apply k0; clear k0; simp only [zP, E])
  refine' aw (want := false) 9 rfl (m := 55) (by simp only [zP, M, E]; exact rfl) (by kernel_rfl) rfl rfl rfl rfl rfl (fun hg31 => ?a31) ?b31 ?c31
  case a31 =>
   have hq31 := hg31; (try simp only [zB, reduceCtorEq] at hg31); simp only [zE]
   iterate 9 (refine aL rfl fun _ k0 => ?_; simp only [zO, zT, acs, reduceCtorEq, M, E, O, Z, Y, V, Mly.av]; (repeat refine an ?_); (try refine .inl ?_); apply k0; clear k0; simp only [zP, E])
   (refine aa rfl fun _ k0 => ?_; simp only [zO, zT, acs, reduceCtorEq, M, E, O, Z, Y, V, Mly.av]; (repeat refine an ?_); (try refine .inl ?_); apply k0; clear k0; simp only [zP, E])
   refine ad ?_
   refine ⟨by simp only [zP, M, E]; exact rfl, rfl, ?_, rfl⟩; (repeat refine ax rfl ?_); exact aM (by exact rfl) hq31
  case b31 => exact bj
  simp only [aJ, aC]
  refine ad ?_
  refine ⟨by kernel_rfl, ?_⟩
  apply k30; clear k30; refine kp [1, 3, 4, 42, 43, 44, 65] ?_
  refine cd (fun hc32 => ?_) (fun hc32 => ?_)
  ·(try simp only [zB, reduceCtorEq] at hc32)
   refine ab fun _ k33 => ?_
   refine ae hP hN rfl ?_
   (refine aa rfl fun _ k0 => ?_; simp only [zO, zT, acs, reduceCtorEq, M, E, O, Z, Y, V, Mly.av]; (repeat refine an ?_); (try refine .inl ?_); apply k0; clear k0; simp only [zP, E])
   refine ad ?_
   apply k33; clear k33; refine kp [1, 2, 3, 4, 42, 43, 44, 65] ?_
   refine ar ?_
   refine ⟨nr, _, rfl, ?_⟩; simp only [zF, zP, M, E, Mly.av]
   refine VLE.of_eq ?_
   refine congrArg (fun n => AV.one (AC.int IntKind.i64 n)) ?_
   symm
   unfold bB
   first
   | (rw [if_pos (by omega)]; done)
   | (rw [if_neg (by omega), if_pos (by omega)]; done)
   | (rw [if_neg (by omega), if_neg (by omega), if_pos (by omega)]; done)
   | (rw [if_neg (by omega), if_neg (by omega), if_neg (by omega), if_pos (by omega)]; done)
   | (rw [if_neg (by omega), if_neg (by omega), if_neg (by omega), if_neg (by omega), if_pos (by omega)]; done)
   | (rw [if_neg (by omega), if_neg (by omega), if_neg (by omega), if_neg (by omega), if_neg (by omega)]
      first
      | exact (bo hrows (by omega) (by rw [bD hc32.1 hc32.2 (j := j) (by omega) (by unfold aZ; omega)]; decide)).trans (bD hc32.1 hc32.2 (by omega) (by unfold aZ; omega))
      | exact (bo hrows (by omega) (by rw [bC hc32]; decide)).trans (bC hc32)
      | exact bT fun i hi => hrows i (by omega))
  (try simp only [zB, reduceCtorEq] at hc32)
  refine au ?_
  apply k29; clear k29; refine kp [1, 3, 4, 42, 43, 44, 65] ?_
  refine ab fun _ k34 => ?_
  refine ae hP hN rfl ?_
  iterate 3 (refine aa rfl fun _ k0 => ?_; simp only [zO, zT, acs, reduceCtorEq, M, E, O, Z, Y, V, Mly.av]; (repeat refine an ?_); (try refine .inl ?_); apply k0; clear k0; simp only [zP, E])
  refine ad ?_
  apply k34; clear k34; refine kp [1, 3, 4, 42, 43, 44, 65, 67, 68] ?_
  refine az ?_
  refine bm (fun n35 s35 => ∃ (j : Nat), ((j : Int) ≤ m.inp) ∧ (∀ a, a < j → ¬ aZ m k a) ∧ n35 = m.inp.toNat - j ∧ s35 = { env := [(1, .one (.ptr 0 0 0 0)), (3, .one (.int .i64 (m.nx.length : Int))), (4, .one (.int .i64 (k : Int))), (42, .one (.int .i64 (m.nx.length : Int))), (43, .one (.int .i64 (k : Int))), (67, .one (.int .i64 m.inp)), (68, .one (.int .i64 (j : Int)))], L := [.vars 27 [.int .i64 m.inp, .int .i64 m.st, .list (.list (.int .i64)) m.nx, .list (.list (.int .i64)) m.ot]] }) ?_ ?_
  ·refine ⟨_, _, aE [1, 3, 4, 42, 43, 67, 68], 0, ?_, fun i hi => by omega, rfl, rfl⟩; omega
  rintro n35 s35 ⟨j, hj, hcells, rfl, rfl⟩
  refine ab fun _ k36 => ?_
  refine ae hP hN rfl ?_
  (refine aa rfl fun _ k0 => ?_; simp only [zO, zT, acs, reduceCtorEq, M, E, O, Z, Y, V, Mly.av]; (repeat refine an ?_); (try refine .inl ?_); apply k0; clear k0; simp only [zP, E])
  refine ad ?_
  apply k36; clear k36; refine kp [1, 3, 4, 42, 43, 67, 68, 69] ?_
  refine ab fun _ k37 => ?_
  refine cd (fun hc38 => ?_) (fun hc38 => ?_)
  ·(try simp only [zB, reduceCtorEq] at hc38)
   refine au ?_
   apply k37; clear k37; refine kp [1, 3, 4, 42, 43, 67, 68, 69] ?_
   refine ab fun _ k39 => ?_
   refine az ?_
   refine ab fun _ k40 => ?_
   refine ae hP hN rfl ?_
   iterate 2 (refine aa rfl fun _ k0 => ?_; simp only [zO, zT, acs, reduceCtorEq, M, E, O, Z, Y, V, Mly.av]; (repeat refine an ?_); (try refine .inl ?_); apply k0; clear k0; simp only [zP, E])
   refine ad ?_
   apply k40; clear k40; refine kp [1, 3, 4, 5, 42, 43, 67, 68, 69] ?_
   refine ab fun _ k41 => ?_
   refine cw hP hN Tryd.mixed rfl ?_
   iterate 18 (refine aa rfl fun _ k0 => ?_; simp only [zO, zT, acs, reduceCtorEq, M, E, O, Z, Y, V, Mly.av]; (repeat refine an ?_); (try refine .inl ?_); apply k0; clear k0; simp only [zP, E])
   refine ad ?_
   refine ⟨by kernel_rfl, ?_⟩
   apply k41; clear k41; refine kp [1, 3, 4, 5, 6, 7, 42, 43, 67, 68, 69] ?_
   refine ab fun _ k42 => ?_
   refine ae hP hN rfl ?_
   iterate 3 (refine aa rfl fun _ k0 => ?_; simp only [zO, zT, acs, reduceCtorEq, M, E, O, Z, Y, V, Mly.av]; (repeat refine an ?_); (try refine .inl ?_); apply k0; clear k0; simp only [zP, E])
   refine' aw (want := false) 3 rfl (m := 89) (by simp only [zP, M, E]; exact rfl) (by kernel_rfl) rfl rfl rfl rfl rfl (fun hg43 => ?a43) ?b43 ?c43
   case a43 =>
    have hq43 := hg43; (try simp only [zB, reduceCtorEq] at hg43); simp only [zE]
    iterate 3 (refine aL rfl fun _ k0 => ?_; simp only [zO, zT, acs, reduceCtorEq, M, E, O, Z, Y, V, Mly.av]; (repeat refine an ?_); (try refine .inl ?_); apply k0; clear k0; simp only [zP, E])
    (refine aa rfl fun _ k0 => ?_; simp only [zO, zT, acs, reduceCtorEq, M, E, O, Z, Y, V, Mly.av]; (repeat refine an ?_); (try refine .inl ?_); apply k0; clear k0; simp only [zP, E])
    refine ad ?_
    refine ⟨by simp only [zP, M, E]; exact rfl, rfl, ?_, rfl⟩; (repeat refine ax rfl ?_); exact aM (by exact rfl) hq43
   case b43 => exact bj
   simp only [aJ, aC]
   (refine aa rfl fun _ k0 => ?_; simp only [zO, zT, acs, reduceCtorEq, M, E, O, Z, Y, V, Mly.av]; (repeat refine an ?_); (try refine .inl ?_); apply k0; clear k0; simp only [zP, E])
   refine' aw (want := false) 2 rfl (m := 94) (by simp only [zP, M, E]; exact rfl) (by kernel_rfl) rfl rfl rfl rfl rfl (fun hg44 => ?a44) ?b44 ?c44
   case a44 =>
    have hq44 := hg44; (try simp only [zB, reduceCtorEq] at hg44); simp only [zE]
    iterate 2 (refine aL rfl fun _ k0 => ?_; simp only [zO, zT, acs, reduceCtorEq, M, E, O, Z, Y, V, Mly.av]; (repeat refine an ?_); (try refine .inl ?_); apply k0; clear k0; simp only [zP, E])
    (refine aa rfl fun _ k0 => ?_; simp only [zO, zT, acs, reduceCtorEq, M, E, O, Z, Y, V, Mly.av]; (repeat refine an ?_); (try refine .inl ?_); apply k0; clear k0; simp only [zP, E])
    refine ad ?_
    refine ⟨by simp only [zP, M, E]; exact rfl, rfl, ?_, rfl⟩; (repeat refine ax rfl ?_); exact aM (by exact rfl) hq44
   case b44 => exact bj
   simp only [aJ, aC]
   (refine aa rfl fun _ k0 => ?_; simp only [zO, zT, acs, reduceCtorEq, M, E, O, Z, Y, V, Mly.av]; (repeat refine an ?_); (try refine .inl ?_); apply k0; clear k0; simp only [zP, E])
   refine' aw (want := false) 2 rfl (m := 98) (by simp only [zP, M, E]; exact rfl) (by kernel_rfl) rfl rfl rfl rfl rfl (fun hg45 => ?a45) ?b45 ?c45
   case a45 =>
    have hq45 := hg45; (try simp only [zB, reduceCtorEq] at hg45); simp only [zE]
    iterate 2 (refine aL rfl fun _ k0 => ?_; simp only [zO, zT, acs, reduceCtorEq, M, E, O, Z, Y, V, Mly.av]; (repeat refine an ?_); (try refine .inl ?_); apply k0; clear k0; simp only [zP, E])
    (refine aa rfl fun _ k0 => ?_; simp only [zO, zT, acs, reduceCtorEq, M, E, O, Z, Y, V, Mly.av]; (repeat refine an ?_); (try refine .inl ?_); apply k0; clear k0; simp only [zP, E])
    refine ad ?_
    refine ⟨by simp only [zP, M, E]; exact rfl, rfl, ?_, rfl⟩; (repeat refine ax rfl ?_); exact aM (by exact rfl) hq45
   case b45 => exact bj
   simp only [aJ, aC]
   refine ad ?_
   apply k42; clear k42; refine kp [1, 3, 4, 5, 6, 7, 42, 43, 67, 68, 69, 101] ?_
   refine cd (fun hc46 => ?_) (fun hc46 => ?_)
   ·(try simp only [zB, reduceCtorEq] at hc46)
    refine ab fun _ k47 => ?_
    refine ae hP hN rfl ?_
    (refine aa rfl fun _ k0 => ?_; simp only [zO, zT, acs, reduceCtorEq, M, E, O, Z, Y, V, Mly.av]; (repeat refine an ?_); (try refine .inl ?_); apply k0; clear k0; simp only [zP, E])
    refine ad ?_
    apply k47; clear k47; refine kp [1, 2, 3, 4, 5, 6, 7, 42, 43, 67, 68, 69, 101] ?_
    refine ar ?_
    refine ⟨nr, _, rfl, ?_⟩; simp only [zF, zP, M, E, Mly.av]
    refine VLE.of_eq ?_
    refine congrArg (fun n => AV.one (AC.int IntKind.i64 n)) ?_
    symm
    unfold bB
    first
    | (rw [if_pos (by omega)]; done)
    | (rw [if_neg (by omega), if_pos (by omega)]; done)
    | (rw [if_neg (by omega), if_neg (by omega), if_pos (by omega)]; done)
    | (rw [if_neg (by omega), if_neg (by omega), if_neg (by omega), if_pos (by omega)]; done)
    | (rw [if_neg (by omega), if_neg (by omega), if_neg (by omega), if_neg (by omega), if_pos (by omega)]; done)
    | (rw [if_neg (by omega), if_neg (by omega), if_neg (by omega), if_neg (by omega), if_neg (by omega)]
       first
       | exact (bo hrows (by omega) (by rw [bD hc32.1 hc32.2 (j := j) (by omega) (by unfold aZ; omega)]; decide)).trans (bD hc32.1 hc32.2 (by omega) (by unfold aZ; omega))
       | exact (bo hrows (by omega) (by rw [bC hc32]; decide)).trans (bC hc32)
       | exact bT fun i hi => hrows i (by omega))
   (try simp only [zB, reduceCtorEq] at hc46)
   refine au ?_
   apply k39; clear k39; refine kp [1, 3, 4, 5, 6, 7, 42, 43, 67, 68, 69, 101] ?_
   refine ae hP hN rfl ?_
   iterate 2 (refine aa rfl fun _ k0 => ?_; simp only [zO, zT, acs, reduceCtorEq, M, E, O, Z, Y, V, Mly.av]; (repeat refine an ?_); (try refine .inl ?_); apply k0; clear k0; simp only [zP, E])
   refine ad ?_
   refine ⟨_, _, ?_, aE [1, 3, 4, 42, 43, 67, 68], j + 1, ?_, fun a ha => ?_, rfl, rfl⟩
   · omega
   · omega
   · by_cases e : a = j
     · rw [e]; unfold aZ; omega
     · exact hcells a (by omega)
  (try simp only [zB, reduceCtorEq] at hc38)
  refine bg ?_
  apply k27; clear k27; refine kp [1, 3, 4, 42, 43, 67, 68, 69] ?_
  refine ae hP hN rfl ?_
  iterate 2 (refine aa rfl fun _ k0 => ?_; simp only [zO, zT, acs, reduceCtorEq, M, E, O, Z, Y, V, Mly.av]; (repeat refine an ?_); (try refine .inl ?_); apply k0; clear k0; simp only [zP, E])
  refine ad ?_
  refine ⟨_, _, ?_, aE [1, 3, 42, 43], k + 1, by omega, fun i hi => ?_, rfl, rfl⟩
  · omega
  · by_cases e : i = k
    · rw [e]; exact tz hc32.1 hc32.2 fun a ha => hcells a (by omega)
    · exact hrows i (by omega)
 (try simp only [zB, reduceCtorEq] at hc26)
 refine bg ?_
 apply k21; clear k21; refine kp [1, 3, 42, 43, 44] ?_
 refine ab fun _ k48 => ?_
 refine ae hP hN rfl ?_
 (refine aa rfl fun _ k0 => ?_; simp only [zO, zT, acs, reduceCtorEq, M, E, O, Z, Y, V, Mly.av]; (repeat refine an ?_); (try refine .inl ?_); apply k0; clear k0; simp only [zP, E])
 refine ad ?_
 apply k48; clear k48; refine kp [1, 2, 3, 42, 43, 44] ?_
 refine ar ?_
 refine ⟨nr, _, rfl, ?_⟩; simp only [zF, zP, M, E, Mly.av]
 refine VLE.of_eq ?_
 refine congrArg (fun n => AV.one (AC.int IntKind.i64 n)) ?_
 symm
 unfold bB
 first
 | (rw [if_pos (by omega)]; done)
 | (rw [if_neg (by omega), if_pos (by omega)]; done)
 | (rw [if_neg (by omega), if_neg (by omega), if_pos (by omega)]; done)
 | (rw [if_neg (by omega), if_neg (by omega), if_neg (by omega), if_pos (by omega)]; done)
 | (rw [if_neg (by omega), if_neg (by omega), if_neg (by omega), if_neg (by omega), if_pos (by omega)]; done)
 | (rw [if_neg (by omega), if_neg (by omega), if_neg (by omega), if_neg (by omega), if_neg (by omega)]
    first
    | exact (bo hrows (by omega) (by rw [bD hc32.1 hc32.2 (j := j) (by omega) (by unfold aZ; omega)]; decide)).trans (bD hc32.1 hc32.2 (by omega) (by unfold aZ; omega))
    | exact (bo hrows (by omega) (by rw [bC hc32]; decide)).trans (bC hc32)
    | exact bT fun i hi => hrows i (by omega))
theorem sI (m : Mly) : bE Tryd.prog 21 [m.av] (.one (.list (.int .i64) (dR m))) := by
 refine aO Tryd.func21 rfl (by kernel_rfl) (Nat.le_of_ble_eq_true rfl) rfl fun C hP hN hB => ?_
 replace hN : C.N = 24 := hN
 simp only [aS, E]
 refine ab fun _ k1 => ?_
 refine ae hP hN rfl ?_
 iterate 2 (refine aa rfl fun _ k0 => ?_; simp only [zO, zT, acs, reduceCtorEq, M, E, O, Z, Y, V, Mly.av]; (repeat refine an ?_); (try refine .inl ?_); apply k0; clear k0; simp only [zP, E])
 refine ad ?_
 apply k1; clear k1; refine kp [0, 1, 2] ?_
 refine ab fun _ k2 => ?_
 refine ab fun _ k3 => ?_
 refine ae hP hN rfl ?_
 (refine aa rfl fun _ k0 => ?_; simp only [zO, zT, acs, reduceCtorEq, M, E, O, Z, Y, V, Mly.av]; (repeat refine an ?_); (try refine .inl ?_); apply k0; clear k0; simp only [zP, E])
 refine aa rfl fun _ k0 => ?_
 refine ay (h := ak (o8 m)) rfl rfl (by first | exact rfl | (simp only [ev, zP, M, E]; exact rfl)) (by simp only [zV, acs, reduceCtorEq, M, E, O, Z, Y, V, Mly.av]) ?_
 apply k0; clear k0; simp only [zP, E]
 (refine aa rfl fun _ k0 => ?_; simp only [zO, zT, acs, reduceCtorEq, M, E, O, Z, Y, V, Mly.av]; (repeat refine an ?_); (try refine .inl ?_); apply k0; clear k0; simp only [zP, E])
 refine ad ?_
 apply k3; clear k3; refine kp [0, 1, 2, 8] ?_
 refine cd (fun hc4 => ?_) (fun hc4 => ?_)
 ·(try simp only [zB, reduceCtorEq] at hc4)
  refine ab fun _ k5 => ?_
  refine ae hP hN rfl ?_
  (refine aa rfl fun _ k0 => ?_; simp only [zO, zT, acs, reduceCtorEq, M, E, O, Z, Y, V, Mly.av]; (repeat refine an ?_); (try refine .inl ?_); apply k0; clear k0; simp only [zP, E])
  refine ad ?_
  apply k5; clear k5; refine kp [0, 1, 2, 8] ?_
  refine ar ?_
  refine ⟨nr, _, rfl, ?_⟩; simp only [zF, zP, M, E, Mly.av]
  first
  | (rw [mN ‹¬bB m = 0›]; exact og (me rfl))
  | (rw [fZ hv]; exact VLE.of_eq rfl)
 (try simp only [zB, reduceCtorEq] at hc4)
 have hv : bB m = 0 := by omega
 have hm := nz hv; have hol := hm.ol; have hi1 := hm.i1; have hi2 := hm.i2; have hn1 := hm.n1; have hn2 := hm.n2
 refine au ?_
 apply k2; clear k2; refine kp [0, 1, 2, 8] ?_
 refine ab fun _ k6 => ?_
 refine ae hP hN rfl ?_
 (refine aa rfl fun _ k0 => ?_; simp only [zO, zT, acs, reduceCtorEq, M, E, O, Z, Y, V, Mly.av]; (repeat refine an ?_); (try refine .inl ?_); apply k0; clear k0; simp only [zP, E])
 refine ad ?_
 apply k6; clear k6; refine kp [0, 1, 2, 3, 8] ?_
 refine ab fun _ k7 => ?_
 refine ab fun _ k8 => ?_
 refine ae hP hN rfl ?_
 iterate 4 (refine aa rfl fun _ k0 => ?_; simp only [zO, zT, acs, reduceCtorEq, M, E, O, Z, Y, V, Mly.av]; (repeat refine an ?_); (try refine .inl ?_); apply k0; clear k0; simp only [zP, E])
 refine ad ?_
 apply k8; clear k8; refine kp [0, 1, 2, 3, 8, 10, 11, 12] ?_
 refine az ?_
 refine p6 3 (.int .i64) 3 (by decide) rfl ?_; simp only [ah, aq, aj, am, Nat.zero_add, E]
 refine bm (fun n9 s9 => ∃ (s : Nat) (v : Nat), (s ≤ m.ot.length) ∧ n9 = m.ot.length - s ∧ s9 = { env := [(3, .one (.row 1 v)), (10, .one (.list (.list (.int .i64)) m.ot)), (11, .one (.int .i64 (m.ot.length : Int))), (12, .one (.int .i64 (s : Int)))], L := [.vars 27 [.int .i64 m.inp, .int .i64 m.st, .list (.list (.int .i64)) m.nx, .list (.list (.int .i64)) m.ot], .row (.int .i64) 3 v (m.ot.take s).flatten] }) ?_ ?_
 ·exact ⟨_, _, aE [3, 10, 11, 12], 0, 0, Nat.zero_le _, rfl, rfl⟩
 rintro n9 s9 ⟨s, v, hs, rfl, rfl⟩
 refine ab fun _ k10 => ?_
 refine ae hP hN rfl ?_
 (refine aa rfl fun _ k0 => ?_; simp only [zO, zT, acs, reduceCtorEq, M, E, O, Z, Y, V, Mly.av]; (repeat refine an ?_); (try refine .inl ?_); apply k0; clear k0; simp only [zP, E])
 refine ad ?_
 apply k10; clear k10; refine kp [3, 10, 11, 12, 13] ?_
 refine ab fun _ k11 => ?_
 refine cd (fun hc12 => ?_) (fun hc12 => ?_)
 ·(try simp only [zB, reduceCtorEq] at hc12)
  refine au ?_
  apply k11; clear k11; refine kp [3, 10, 11, 12, 13] ?_
  refine ab fun _ k13 => ?_
  refine az ?_
  refine ab fun _ k14 => ?_
  refine ae hP hN rfl ?_
  iterate 3 (refine aa rfl fun _ k0 => ?_; simp only [zO, zT, acs, reduceCtorEq, M, E, O, Z, Y, V, Mly.av]; (repeat refine an ?_); (try refine .inl ?_); apply k0; clear k0; simp only [zP, E])
  refine ad ?_
  apply k14; clear k14; refine kp [3, 5, 10, 11, 12, 13] ?_
  have hf2 := ge hm (k := s + 1) (by omega); have hf3 := ge hm (k := s) (by omega); rw [dS _ (by omega), ag] at hf2
  refine ae hP hN rfl ?_
  iterate 4 (refine aa rfl fun _ k0 => ?_; simp only [zO, zT, acs, reduceCtorEq, M, E, O, Z, Y, V, Mly.av]; (repeat refine an ?_); (try refine .inl ?_); apply k0; clear k0; simp only [zP, E])
  refine ad ?_
  apply k13; clear k13; refine kp [3, 5, 10, 11, 12, 13] ?_
  refine ae hP hN rfl ?_
  iterate 2 (refine aa rfl fun _ k0 => ?_; simp only [zO, zT, acs, reduceCtorEq, M, E, O, Z, Y, V, Mly.av]; (repeat refine an ?_); (try refine .inl ?_); apply k0; clear k0; simp only [zP, E])
  refine ad ?_
  refine ⟨_, _, ?_, aE [3, 10, 11, 12], s + 1, v + 1, by omega, rfl, ?_⟩
  · omega
  · rw [dS _ (by omega)]; rfl
 (try simp only [zB, reduceCtorEq] at hc12)
 refine bg ?_
 apply k7; clear k7; refine kp [3, 10, 11, 12, 13] ?_
 refine ab fun _ k15 => ?_
 have hsl : s = m.ot.length := by omega
 subst hsl
 rw [aG]
 have hf2 := ge hm (k := m.ot.length) (Nat.le_refl _); have hf3 := kt hm m.ot.length (Nat.le_refl _); rw [aG] at hf2 hf3
 have hp9 : (1 : Int) * 1 ≤ m.ot.length * m.inp := Int.mul_le_mul (by omega) (by omega) (by omega) (by omega)
 have hpos : 0 < m.ot.flatten.length := by omega
 refine ae hP hN rfl ?_
 (refine aa rfl fun _ k0 => ?_; simp only [zO, zT, acs, reduceCtorEq, M, E, O, Z, Y, V, Mly.av]; (repeat refine an ?_); (try refine .inl ?_); apply k0; clear k0; simp only [zP, E])
 refine aa rfl fun _ k0 => ?_
 refine ay (h := pO (k := 1) (ver := v) (xs := m.ot.flatten) tx rfl (by omega) (by omega)) rfl rfl (by first | exact rfl | (simp only [ev, zP, M, E]; exact rfl)) (by simp only [zV, acs, reduceCtorEq, M, E, O, Z, Y, V, Mly.av]) ?_
 apply k0; clear k0; simp only [zP, E]
 refine ad ?_
 apply k15; clear k15; refine kp [3, 10, 11, 12, 13] ?_
 refine ab fun _ k16 => ?_
 refine ae hP hN rfl ?_
 (refine aa rfl fun _ k0 => ?_; simp only [zO, zT, acs, reduceCtorEq, M, E, O, Z, Y, V, Mly.av]; (repeat refine an ?_); (try refine .inl ?_); apply k0; clear k0; simp only [zP, E])
 refine aa rfl fun _ k0 => ?_
 refine ay (h := lY (k := 1) (ver := v) (xs := eO m.ot.flatten) o4 rfl (by rw [l9]; omega) (by rw [l9]; omega) nQ) rfl rfl (by first | exact rfl | (simp only [ev, zP, M, E]; exact rfl)) (by simp only [zV, acs, reduceCtorEq, M, E, O, Z, Y, V, Mly.av]) ?_
 apply k0; clear k0; simp only [zP, E]
 (refine aa rfl fun _ k0 => ?_; simp only [zO, zT, acs, reduceCtorEq, M, E, O, Z, Y, V, Mly.av]; (repeat refine an ?_); (try refine .inl ?_); apply k0; clear k0; simp only [zP, E])
 refine ad ?_
 apply k16; clear k16; refine kp [2, 3, 10, 11, 12, 13] ?_
 refine ar ?_
 refine ⟨nr, _, rfl, ?_⟩; simp only [zF, zP, M, E, Mly.av]
 first
 | (rw [mN ‹¬bB m = 0›]; exact og (me rfl))
 | (rw [fZ hv]; exact VLE.of_eq rfl)
theorem lj (x : Mdl) : bE Tryd.prog 10 [x.av] (.one (.int .i64 (mvE x))) := by
 refine aO Tryd.func10 rfl (by kernel_rfl) (Nat.le_of_ble_eq_true rfl) rfl fun C hP hN hB => ?_
 replace hN : C.N = 52 := hN
 simp only [aS, E]
 refine ab fun _ k1 => ?_
 refine ae hP hN rfl ?_
 iterate 2 (refine aa rfl fun _ k0 => ?_; simp only [zO, zT, acs, reduceCtorEq, M, E, O, Z, Y, V, Mdl.av, Mdl.cs]; (repeat refine an ?_); (try refine .inl ?_); apply k0; clear k0; simp only [zP, E])
 refine ad ?_
 apply k1; clear k1; refine kp [0, 1, 2] ?_
 refine ab fun _ k2 => ?_
 refine ab fun _ k3 => ?_
 refine ae hP hN rfl ?_
 iterate 2 (refine aa rfl fun _ k0 => ?_; simp only [zO, zT, acs, reduceCtorEq, M, E, O, Z, Y, V, Mdl.av, Mdl.cs]; (repeat refine an ?_); (try refine .inl ?_); apply k0; clear k0; simp only [zP, E])
 refine aa rfl fun _ k0 => ?_
 refine ay (h := ak (kv x.nm)) rfl rfl (by first | exact rfl | (simp only [ev, zP, M, E]; exact rfl)) (by simp only [zV, acs, reduceCtorEq, M, E, O, Z, Y, V, Mdl.av, Mdl.cs]) ?_
 apply k0; clear k0; simp only [zP, E]
 (refine aa rfl fun _ k0 => ?_; simp only [zO, zT, acs, reduceCtorEq, M, E, O, Z, Y, V, Mdl.av, Mdl.cs]; (repeat refine an ?_); (try refine .inl ?_); apply k0; clear k0; simp only [zP, E])
 refine ad ?_
 apply k3; clear k3; refine kp [0, 1, 2, 11] ?_
 refine cd (fun hc4 => ?_) (fun hc4 => ?_)
 ·(try simp only [zB, reduceCtorEq] at hc4)
  refine ab fun _ k5 => ?_
  refine ae hP hN rfl ?_
  (refine aa rfl fun _ k0 => ?_; simp only [zO, zT, acs, reduceCtorEq, M, E, O, Z, Y, V, Mdl.av, Mdl.cs]; (repeat refine an ?_); (try refine .inl ?_); apply k0; clear k0; simp only [zP, E])
  refine ad ?_
  apply k5; clear k5; refine kp [0, 1, 2, 11] ?_
  refine ar ?_
  refine ⟨nr, _, rfl, ?_⟩; simp only [zF, zP, M, E, Mdl.av, Mdl.cs]
  refine VLE.of_eq ?_
  refine congrArg (fun n => AV.one (AC.int IntKind.i64 n)) ?_
  symm
  first
  | exact ou (by assumption)
  | exact oD (by assumption) (by omega) hq (by assumption)
  | (have hi0 : alE x.ins = 0 := hq 0 (by omega)
     have hi1 : alE x.outs = 0 := hq 1 (by omega)
     first
     | exact p7 (by assumption) hi0 hi1 (by assumption)
     | exact oF (by assumption) hi0 hi1 (by assumption) (by omega)
     | exact m9 (by assumption) hi0 hi1 (by assumption) (by assumption))
 (try simp only [zB, reduceCtorEq] at hc4)
 refine au ?_
 apply k2; clear k2; refine kp [0, 1, 2, 11] ?_
 refine ab fun _ k6 => ?_
 refine ab fun _ k7 => ?_
 refine ae hP hN rfl ?_
 iterate 6 (refine aa rfl fun _ k0 => ?_; simp only [zO, zT, acs, reduceCtorEq, M, E, O, Z, Y, V, Mdl.av, Mdl.cs]; (repeat refine an ?_); (try refine .inl ?_); apply k0; clear k0; simp only [zP, E])
 refine ad ?_
 apply k7; clear k7; refine kp [0, 1, 2, 11, 16, 17] ?_
 refine az ?_
 refine bm (fun n8 s8 => ∃ (k : Nat), (k ≤ 2) ∧ (∀ q, q < k → alE ([x.ins, x.outs].getD q []) = 0) ∧ n8 = 2 - k ∧ s8 = { env := [(1, .one (.ptr 0 0 0 0)), (2, .one (.int .i64 0)), (16, .agg [.list .str x.ins, .list .str x.outs]), (17, .one (.int .i64 (k : Int)))], L := [.vars 29 [.str x.nm, .list .str x.ins, .list .str x.outs, .int .i64 x.m.inp, .int .i64 x.m.st, .list (.list (.int .i64)) x.m.nx, .list (.list (.int .i64)) x.m.ot]] }) ?_ ?_
 ·exact ⟨_, _, aE [1, 2, 16, 17], 0, Nat.zero_le _, fun q hq => by omega, rfl, rfl⟩
 rintro n8 s8 ⟨k, hk, hq, rfl, rfl⟩
 refine ab fun _ k9 => ?_
 refine ae hP hN rfl ?_
 (refine aa rfl fun _ k0 => ?_; simp only [zO, zT, acs, reduceCtorEq, M, E, O, Z, Y, V, Mdl.av, Mdl.cs]; (repeat refine an ?_); (try refine .inl ?_); apply k0; clear k0; simp only [zP, E])
 refine ad ?_
 apply k9; clear k9; refine kp [1, 2, 16, 17, 18] ?_
 refine ab fun _ k10 => ?_
 refine cd (fun hc11 => ?_) (fun hc11 => ?_)
 ·(try simp only [zB, reduceCtorEq] at hc11)
  refine au ?_
  apply k10; clear k10; refine kp [1, 2, 16, 17, 18] ?_
  refine ab fun _ k12 => ?_
  refine az ?_
  refine ab fun _ k13 => ?_
  have hk1 : k ≤ 1 := by omega
  have htk : List.take 1 (List.drop k [AC.list Ty.str x.ins, AC.list Ty.str x.outs]) = [AC.list Ty.str ([x.ins, x.outs].getD k [])] := by rcases (show k = 0 ∨ k = 1 by omega) with rfl | rfl <;> rfl
  refine ae hP hN rfl ?_
  iterate 3 (refine aa rfl fun _ k0 => ?_; simp only [zO, zT, acs, reduceCtorEq, M, E, O, Z, Y, V, Mdl.av, Mdl.cs, hk1, if_true, htk]; (repeat refine an ?_); (try refine .inl ?_); apply k0; clear k0; simp only [zP, E])
  refine ad ?_
  apply k13; clear k13; refine kp [1, 2, 4, 16, 17, 18] ?_
  refine ab fun _ k14 => ?_
  refine ae hP hN rfl ?_
  (refine aa rfl fun _ k0 => ?_; simp only [zO, zT, acs, reduceCtorEq, M, E, O, Z, Y, V, Mdl.av, Mdl.cs]; (repeat refine an ?_); (try refine .inl ?_); apply k0; clear k0; simp only [zP, E])
  refine aa rfl fun _ k0 => ?_
  refine ay (h := ak (ia ([x.ins, x.outs].getD k []))) rfl rfl (by first | exact rfl | (simp only [ev, zP, M, E]; exact rfl)) (by simp only [zV, acs, reduceCtorEq, M, E, O, Z, Y, V, Mdl.av, Mdl.cs]) ?_
  apply k0; clear k0; simp only [zP, E]
  (refine aa rfl fun _ k0 => ?_; simp only [zO, zT, acs, reduceCtorEq, M, E, O, Z, Y, V, Mdl.av, Mdl.cs]; (repeat refine an ?_); (try refine .inl ?_); apply k0; clear k0; simp only [zP, E])
  refine ad ?_
  apply k14; clear k14; refine kp [1, 2, 4, 5, 16, 17, 18] ?_
  refine ab fun _ k15 => ?_
  refine ae hP hN rfl ?_
  iterate 2 (refine aa rfl fun _ k0 => ?_; simp only [zO, zT, acs, reduceCtorEq, M, E, O, Z, Y, V, Mdl.av, Mdl.cs]; (repeat refine an ?_); (try refine .inl ?_); apply k0; clear k0; simp only [zP, E])
  refine ad ?_
  apply k15; clear k15; refine kp [1, 2, 4, 5, 16, 17, 18, 23] ?_
  refine cd (fun hc16 => ?_) (fun hc16 => ?_)
  ·(try simp only [zB, reduceCtorEq] at hc16)
   refine ab fun _ k17 => ?_
   refine ae hP hN rfl ?_
   iterate 2 (refine aa rfl fun _ k0 => ?_; simp only [zO, zT, acs, reduceCtorEq, M, E, O, Z, Y, V, Mdl.av, Mdl.cs]; (repeat refine an ?_); (try refine .inl ?_); apply k0; clear k0; simp only [zP, E])
   refine ad ?_
   apply k17; clear k17; refine kp [1, 2, 4, 5, 16, 17, 18, 23] ?_
   refine ar ?_
   refine ⟨nr, _, rfl, ?_⟩; simp only [zF, zP, M, E, Mdl.av, Mdl.cs]
   refine VLE.of_eq ?_
   refine congrArg (fun n => AV.one (AC.int IntKind.i64 n)) ?_
   symm
   first
   | exact ou (by assumption)
   | exact oD (by assumption) (by omega) hq (by assumption)
   | (have hi0 : alE x.ins = 0 := hq 0 (by omega)
      have hi1 : alE x.outs = 0 := hq 1 (by omega)
      first
      | exact p7 (by assumption) hi0 hi1 (by assumption)
      | exact oF (by assumption) hi0 hi1 (by assumption) (by omega)
      | exact m9 (by assumption) hi0 hi1 (by assumption) (by assumption))
  (try simp only [zB, reduceCtorEq] at hc16)
  refine au ?_
  apply k12; clear k12; refine kp [1, 2, 4, 5, 16, 17, 18, 23] ?_
  refine kp [1, 2, 16, 17] ?_
  refine rt (L1 := [_]) rfl (by rw [hB]; exact Nat.zero_le _) rfl rfl ?_
  refine ae hP hN rfl ?_
  iterate 2 (refine aa rfl fun _ k0 => ?_; simp only [zO, zT, acs, reduceCtorEq, M, E, O, Z, Y, V, Mdl.av, Mdl.cs]; (repeat refine an ?_); (try refine .inl ?_); apply k0; clear k0; simp only [zP, E])
  refine ad ?_
  refine ⟨_, _, ?_, aE [1, 2, 16, 17], k + 1, by omega, fun q hq2 => ?_, rfl, rfl⟩
  · omega
  · by_cases e : q = k
    · rw [e]; omega
    · exact hq q (by omega)
 (try simp only [zB, reduceCtorEq] at hc11)
 refine bg ?_
 apply k6; clear k6; refine kp [1, 2, 16, 17, 18] ?_
 refine ab fun _ k18 => ?_
 refine ab fun _ k19 => ?_
 refine ae hP hN rfl ?_
 iterate 2 (refine aa rfl fun _ k0 => ?_; simp only [zO, zT, acs, reduceCtorEq, M, E, O, Z, Y, V, Mdl.av, Mdl.cs]; (repeat refine an ?_); (try refine .inl ?_); apply k0; clear k0; simp only [zP, E])
 refine aa rfl fun _ k0 => ?_
 refine ay (h := ak (o8 x.m)) rfl rfl (by first | exact rfl | (simp only [ev, zP, M, E]; exact rfl)) (by simp only [zV, acs, reduceCtorEq, M, E, O, Z, Y, V, Mdl.av, Mdl.cs]) ?_
 apply k0; clear k0; simp only [zP, E]
 (refine aa rfl fun _ k0 => ?_; simp only [zO, zT, acs, reduceCtorEq, M, E, O, Z, Y, V, Mdl.av, Mdl.cs]; (repeat refine an ?_); (try refine .inl ?_); apply k0; clear k0; simp only [zP, E])
 refine ad ?_
 apply k19; clear k19; refine kp [1, 2, 6, 16, 17, 18] ?_
 refine ab fun _ k20 => ?_
 refine ae hP hN rfl ?_
 iterate 2 (refine aa rfl fun _ k0 => ?_; simp only [zO, zT, acs, reduceCtorEq, M, E, O, Z, Y, V, Mdl.av, Mdl.cs]; (repeat refine an ?_); (try refine .inl ?_); apply k0; clear k0; simp only [zP, E])
 refine ad ?_
 apply k20; clear k20; refine kp [1, 2, 6, 16, 17, 18, 30] ?_
 refine cd (fun hc21 => ?_) (fun hc21 => ?_)
 ·(try simp only [zB, reduceCtorEq] at hc21)
  refine ab fun _ k22 => ?_
  refine ae hP hN rfl ?_
  iterate 2 (refine aa rfl fun _ k0 => ?_; simp only [zO, zT, acs, reduceCtorEq, M, E, O, Z, Y, V, Mdl.av, Mdl.cs]; (repeat refine an ?_); (try refine .inl ?_); apply k0; clear k0; simp only [zP, E])
  refine ad ?_
  apply k22; clear k22; refine kp [1, 2, 6, 16, 17, 18, 30] ?_
  refine ar ?_
  refine ⟨nr, _, rfl, ?_⟩; simp only [zF, zP, M, E, Mdl.av, Mdl.cs]
  refine VLE.of_eq ?_
  refine congrArg (fun n => AV.one (AC.int IntKind.i64 n)) ?_
  symm
  first
  | exact ou (by assumption)
  | exact oD (by assumption) (by omega) hq (by assumption)
  | (have hi0 : alE x.ins = 0 := hq 0 (by omega)
     have hi1 : alE x.outs = 0 := hq 1 (by omega)
     first
     | exact p7 (by assumption) hi0 hi1 (by assumption)
     | exact oF (by assumption) hi0 hi1 (by assumption) (by omega)
     | exact m9 (by assumption) hi0 hi1 (by assumption) (by assumption))
 (try simp only [zB, reduceCtorEq] at hc21)
 refine au ?_
 apply k18; clear k18; refine kp [1, 2, 6, 16, 17, 18, 30] ?_
 refine ab fun _ k23 => ?_
 refine ae hP hN rfl ?_
 iterate 2 (refine aa rfl fun _ k0 => ?_; simp only [zO, zT, acs, reduceCtorEq, M, E, O, Z, Y, V, Mdl.av, Mdl.cs]; (repeat refine an ?_); (try refine .inl ?_); apply k0; clear k0; simp only [zP, E])
 refine aa rfl fun _ k0 => ?_
 refine ay (h := ak (sI x.m)) rfl rfl (by first | exact rfl | (simp only [ev, zP, M, E]; exact rfl)) (by simp only [zV, acs, reduceCtorEq, M, E, O, Z, Y, V, Mdl.av, Mdl.cs]) ?_
 apply k0; clear k0; simp only [zP, E]
 (refine aa rfl fun _ k0 => ?_; simp only [zO, zT, acs, reduceCtorEq, M, E, O, Z, Y, V, Mdl.av, Mdl.cs]; (repeat refine an ?_); (try refine .inl ?_); apply k0; clear k0; simp only [zP, E])
 refine ad ?_
 apply k23; clear k23; refine kp [1, 2, 6, 7, 16, 17, 18, 30] ?_
 refine ab fun _ k24 => ?_
 refine ab fun _ k25 => ?_
 refine cw hP hN Tryd.mixed rfl ?_
 iterate 9 (refine aa rfl fun _ k0 => ?_; simp only [zO, zT, acs, reduceCtorEq, M, E, O, Z, Y, V, Mdl.av, Mdl.cs]; (repeat refine an ?_); (try refine .inl ?_); apply k0; clear k0; simp only [zP, E])
 refine' aw (want := false) 7 rfl (m := 43) (by simp only [zP, M, E]; exact rfl) (by kernel_rfl) rfl rfl rfl rfl rfl (fun hg26 => ?a26) ?b26 ?c26
 case a26 =>
  have hq26 := hg26; (try simp only [zB, reduceCtorEq] at hg26); simp only [zE]
  (refine aL rfl fun _ k0 => ?_; simp only [zO, zT, acs, reduceCtorEq, M, E, O, Z, Y, V, Mdl.av, Mdl.cs]; (repeat refine an ?_); (try refine .inl ?_); apply k0; clear k0; simp only [zP, E])
  refine aL rfl fun _ k0 => ?_
  refine ay (h := ak (tP (dR x.m) (um (by omega)))) rfl rfl (by first | exact rfl | (simp only [ev, zP, M, E]; exact rfl)) (by simp only [zV, acs, reduceCtorEq, M, E, O, Z, Y, V, Mdl.av, Mdl.cs]) ?_
  apply k0; clear k0; simp only [zP, E]
  iterate 5 (refine aL rfl fun _ k0 => ?_; simp only [zO, zT, acs, reduceCtorEq, M, E, O, Z, Y, V, Mdl.av, Mdl.cs]; (repeat refine an ?_); (try refine .inl ?_); apply k0; clear k0; simp only [zP, E])
  (refine aa rfl fun _ k0 => ?_; simp only [zO, zT, acs, reduceCtorEq, M, E, O, Z, Y, V, Mdl.av, Mdl.cs]; (repeat refine an ?_); (try refine .inl ?_); apply k0; clear k0; simp only [zP, E])
  refine ad ?_
  refine ⟨by simp only [zP, M, E]; exact rfl, rfl, ?_, rfl⟩; (repeat refine ax rfl ?_); exact aM (by exact rfl) hq26
 case b26 => exact bj
 simp only [aJ, aC]
 refine ad ?_
 refine ⟨by kernel_rfl, ?_⟩
 apply k25; clear k25; refine kp [1, 2, 6, 7, 16, 17, 18, 30, 51] ?_
 refine cd (fun hc27 => ?_) (fun hc27 => ?_)
 ·(try simp only [zB, reduceCtorEq] at hc27)
  refine ab fun _ k28 => ?_
  refine ae hP hN rfl ?_
  (refine aa rfl fun _ k0 => ?_; simp only [zO, zT, acs, reduceCtorEq, M, E, O, Z, Y, V, Mdl.av, Mdl.cs]; (repeat refine an ?_); (try refine .inl ?_); apply k0; clear k0; simp only [zP, E])
  refine ad ?_
  apply k28; clear k28; refine kp [1, 2, 6, 7, 16, 17, 18, 30, 51] ?_
  refine ar ?_
  refine ⟨nr, _, rfl, ?_⟩; simp only [zF, zP, M, E, Mdl.av, Mdl.cs]
  refine VLE.of_eq ?_
  refine congrArg (fun n => AV.one (AC.int IntKind.i64 n)) ?_
  symm
  first
  | exact ou (by assumption)
  | exact oD (by assumption) (by omega) hq (by assumption)
  | (have hi0 : alE x.ins = 0 := hq 0 (by omega)
     have hi1 : alE x.outs = 0 := hq 1 (by omega)
     first
     | exact p7 (by assumption) hi0 hi1 (by assumption)
     | exact oF (by assumption) hi0 hi1 (by assumption) (by omega)
     | exact m9 (by assumption) hi0 hi1 (by assumption) (by assumption))
 (try simp only [zB, reduceCtorEq] at hc27)
 refine au ?_
 apply k24; clear k24; refine kp [1, 2, 6, 7, 16, 17, 18, 30, 51] ?_
 refine ab fun _ k29 => ?_
 refine ae hP hN rfl ?_
 (refine aa rfl fun _ k0 => ?_; simp only [zO, zT, acs, reduceCtorEq, M, E, O, Z, Y, V, Mdl.av, Mdl.cs]; (repeat refine an ?_); (try refine .inl ?_); apply k0; clear k0; simp only [zP, E])
 refine ad ?_
 apply k29; clear k29; refine kp [1, 2, 6, 7, 16, 17, 18, 30, 51] ?_
 refine ar ?_
 refine ⟨nr, _, rfl, ?_⟩; simp only [zF, zP, M, E, Mdl.av, Mdl.cs]
 refine VLE.of_eq ?_
 refine congrArg (fun n => AV.one (AC.int IntKind.i64 n)) ?_
 symm
 first
 | exact ou (by assumption)
 | exact oD (by assumption) (by omega) hq (by assumption)
 | (have hi0 : alE x.ins = 0 := hq 0 (by omega)
    have hi1 : alE x.outs = 0 := hq 1 (by omega)
    first
    | exact p7 (by assumption) hi0 hi1 (by assumption)
    | exact oF (by assumption) hi0 hi1 (by assumption) (by omega)
    | exact m9 (by assumption) hi0 hi1 (by assumption) (by assumption))
open Go.Shelf in
def Tryd.lays156_ren : Go.Shelf.Ren := ⟨fun | 156 => 17 | 165 => 28 | 166 => 29 | 169 => 30 | 240 => 43 | 241 => 44 | 276 => 55 | 277 => 56 | n => n, fun | 31 => 22 | 9 => 9 | 3 => 3 | 4 => 4 | 0 => 0 | 20 => 20 | 72 => 66 | 76 => 70 | 70 => 63 | 37 => 64 | 75 => 69 | 127 => 84 | 164 => 95 | 5 => 5 | 80 => 72 | n => n, fun | n => n⟩
theorem Tryd.lays156 : Go.Proofs.Lays.n156 Tryd.prog Tryd.lays156_ren := {
  mixed := by kernel_rfl,
  f156 := Tryd.func17.trans (congrArg some (by kernel_rfl)),
  f165 := Tryd.func28.trans (congrArg some (by kernel_rfl)),
  f166 := Tryd.func29.trans (congrArg some (by kernel_rfl)),
  f169 := Tryd.func30.trans (congrArg some (by kernel_rfl)),
  f240 := Tryd.func43.trans (congrArg some (by kernel_rfl)),
  f241 := Tryd.func44.trans (congrArg some (by kernel_rfl)),
  f276 := Tryd.func55.trans (congrArg some (by kernel_rfl)),
  f277 := Tryd.func56.trans (congrArg some (by kernel_rfl)),
  t0 := Tryd.underlying0,
  a0 := Tryd.isAgg0,
  z0 := Tryd.sizeOf0,
  v0 := Tryd.zeroValue0,
  t3 := Tryd.underlying3,
  a3 := Tryd.isAgg3,
  z3 := Tryd.sizeOf3,
  v3 := Tryd.zeroValue3,
  t4 := Tryd.underlying4,
  a4 := Tryd.isAgg4,
  z4 := Tryd.sizeOf4,
  v4 := Tryd.zeroValue4,
  t9 := Tryd.underlying9,
  a9 := Tryd.isAgg9,
  z9 := Tryd.sizeOf9,
  v9 := Tryd.zeroValue9,
  t20 := Tryd.underlying20,
  a20 := Tryd.isAgg20,
  z20 := Tryd.sizeOf20,
  v20 := Tryd.zeroValue20,
  t31 := Tryd.underlying22,
  a31 := Tryd.isAgg22,
  z31 := Tryd.sizeOf22,
  v31 := Tryd.zeroValue22,
  t37 := Tryd.underlying64,
  a37 := Tryd.isAgg64,
  z37 := Tryd.sizeOf64,
  v37 := Tryd.zeroValue64,
  t70 := Tryd.underlying63,
  a70 := Tryd.isAgg63,
  z70 := Tryd.sizeOf63,
  v70 := Tryd.zeroValue63,
  t72 := Tryd.underlying66,
  a72 := Tryd.isAgg66,
  z72 := Tryd.sizeOf66,
  v72 := Tryd.zeroValue66,
  t75 := Tryd.underlying69,
  a75 := Tryd.isAgg69,
  z75 := Tryd.sizeOf69,
  v75 := Tryd.zeroValue69,
  t76 := Tryd.underlying70,
  a76 := Tryd.isAgg70,
  z76 := Tryd.sizeOf70,
  v76 := Tryd.zeroValue70,
  t127 := Tryd.underlying84,
  a127 := Tryd.isAgg84,
  z127 := Tryd.sizeOf84,
  v127 := Tryd.zeroValue84,
  t164 := Tryd.underlying95,
  a164 := Tryd.isAgg95,
  z164 := Tryd.sizeOf95,
  v164 := Tryd.zeroValue95 }
theorem pa : Builder.Extra Tryd.prog Tryd.lays156_ren where
  sizeBuilder := by kernel_rfl
  liesBuilder := by kernel_rfl
  t5 := Tryd.underlying5
  a5 := Tryd.isAgg5
  z5 := Tryd.sizeOf5
  v5 := Tryd.zeroValue5
  infoByte := by kernel_rfl
  cellsByte := by kernel_rfl
  sizeByte := by kernel_rfl
  neB5 := by decide
theorem fv (xs : List (List UInt8)) (sep : List UInt8) (h1 : xs.length ≤ 140737488355328) (h2 : (Lib.join xs sep).length ≤ 140737488355328) : bE Tryd.prog 17 [.one (.list .str xs), .one (.str sep)] (.one (.str (Lib.join xs sep))) := by
  refine ⟨⟨Tryd.f17, Tryd.func17, by kernel_rfl, by kernel_rfl⟩, fun C L σ w vs hP hi ha => ?_⟩
  cases vs with
  | nil => exact ha.elim
  | cons v vs =>
  cases vs with
  | nil => exact ha.2.elim
  | cons v2 vs =>
  cases vs with
  | cons _ _ => exact ha.2.2.elim
  | nil =>
  obtain ⟨hv, hv2, _⟩ := ha
  have e2 : v2 = .string ⟨sep.toArray⟩ := hv2.2
  subst e2
  have hd : Dat (avd C L σ) w (.list .str) xs [v] := hv.2
  obtain ⟨A, c, e1, hc, _, hel⟩ := hd
  obtain ⟨rfl, _⟩ := List.cons.inj e1
  cases xs with
  | nil => 
    refine Calls.mono (Any.strings_Join_none Tryd.lays156 pa A c ⟨sep.toArray⟩ w) fun e w' hh => ?_
    obtain ⟨e3, rfl⟩ := hh
    exact ⟨_, e3, MORE.refl _, rfl, by rw [Lib.join_nil]; rfl⟩
  | cons x xs =>
    obtain ⟨b, o, rfl, _, hb, hcl⟩ := hel (Nat.succ_pos _)
    have hm : ∀ l : List (List UInt8), (l.map fun x => (⟨x.toArray⟩ : ByteArray)).map (·.data.toList) = l := fun l => by
      rw [List.map_map]
      exact (List.map_congr_left fun a _ => rfl).trans (List.map_id l)
    have h := Any.strings_Join Tryd.lays156 pa b o c ((x :: xs).map fun x => (⟨x.toArray⟩ : ByteArray)) ⟨sep.toArray⟩ w (fun j y hj => by
      rw [List.getElem?_map] at hj
      obtain ⟨z, hz, rfl⟩ := Option.map_eq_some_iff.1 hj
      have hlt := (List.getElem?_eq_some_iff.1 hz).1
      obtain ⟨cs', l1, l2, l3⟩ := hcl j hlt
      have l4 := l2 0 (by decide)
      have e5 : cs' = [.string ⟨(List.getD (x :: xs) j []).toArray⟩] := l3
      rw [e5] at l4
      have e6 : List.getD (x :: xs) j [] = z := by simp [List.getD, hz]
      rw [e6] at l4
      have e7 : o + j * Ty.str.size + 0 = o + j := by show o + j * 1 + 0 = o + j; omega
      rw [e7] at l4
      exact l4) hb (by rw [bG]; exact h1) (by rw [bG]; exact hc) (by rw [hm]; exact h2)
    rw [hm, bG] at h
    refine Calls.mono h fun e w' hh => ?_
    obtain ⟨e3, hw⟩ := hh
    exact ⟨_, e3, ⟨hw.size, hw.os, hw.tape, hw.output, hw.block⟩, rfl, rfl⟩
set_option maxHeartbeats 2000000 in
theorem ml (x : Mdl) (hb : mvE x = 0 → x.m.nx.length ≤ 100) : bE Tryd.prog 9 [x.av] (.tup [.one (.str (SM x)), .one (.int .i64 (mvE x))]) := by
 refine aO Tryd.func9 rfl (by kernel_rfl) (Nat.le_of_ble_eq_true rfl) rfl fun C hP hN hB => ?_
 replace hN : C.N = 110 := hN
 simp only [aS, E]
 refine ab fun _ k1 => ?_
 refine ae hP hN rfl ?_
 iterate 3 (refine aa rfl fun _ k0 => ?_; simp only [zO, zT, acs, reduceCtorEq, M, E, O, Z, Y, V, Mdl.av, Mdl.cs]; (repeat refine an ?_); (try refine .inl ?_); apply k0; clear k0; simp only [zP, E])
 refine ad ?_
 apply k1; clear k1; refine kp [0, 1, 2, 3] ?_
 refine ab fun _ k2 => ?_
 refine ab fun _ k3 => ?_
 refine ae hP hN rfl ?_
 (refine aa rfl fun _ k0 => ?_; simp only [zO, zT, acs, reduceCtorEq, M, E, O, Z, Y, V, Mdl.av, Mdl.cs]; (repeat refine an ?_); (try refine .inl ?_); apply k0; clear k0; simp only [zP, E])
 refine aa rfl fun _ k0 => ?_
 refine ay (h := ak (lj x)) rfl rfl (by first | exact rfl | (simp only [ev, zP, M, E]; exact rfl)) (by simp only [zV, acs, reduceCtorEq, M, E, O, Z, Y, V, Mdl.av, Mdl.cs]) ?_
 apply k0; clear k0; simp only [zP, E]
 (refine aa rfl fun _ k0 => ?_; simp only [zO, zT, acs, reduceCtorEq, M, E, O, Z, Y, V, Mdl.av, Mdl.cs]; (repeat refine an ?_); (try refine .inl ?_); apply k0; clear k0; simp only [zP, E])
 refine ad ?_
 apply k3; clear k3; refine kp [0, 1, 2, 3, 4] ?_
 refine ab fun _ k4 => ?_
 refine ae hP hN rfl ?_
 iterate 2 (refine aa rfl fun _ k0 => ?_; simp only [zO, zT, acs, reduceCtorEq, M, E, O, Z, Y, V, Mdl.av, Mdl.cs]; (repeat refine an ?_); (try refine .inl ?_); apply k0; clear k0; simp only [zP, E])
 refine ad ?_
 apply k4; clear k4; refine kp [0, 1, 2, 3, 4, 15] ?_
 refine cd (fun hc5 => ?_) (fun hc5 => ?_)
 ·(try simp only [zB, reduceCtorEq] at hc5)
  refine ab fun _ k6 => ?_
  refine ae hP hN rfl ?_
  iterate 3 (refine aa rfl fun _ k0 => ?_; simp only [zO, zT, acs, reduceCtorEq, M, E, O, Z, Y, V, Mdl.av, Mdl.cs]; (repeat refine an ?_); (try refine .inl ?_); apply k0; clear k0; simp only [zP, E])
  refine ad ?_
  apply k6; clear k6; refine kp [0, 1, 2, 3, 4, 15] ?_
  refine ar ?_
  refine ⟨nr, _, rfl, ?_⟩; simp only [zF, zP, M, E, Mdl.av, Mdl.cs]
  refine VLE.of_eq ?_
  first | (rw [qE (by assumption)]; done) | (rw [kC (by assumption), ‹mvE x = 0›]; done)
 (try simp only [zB, reduceCtorEq] at hc5)
 have hv0 : mvE x = 0 := by omega
 have hv := fj hv0; have hm := hv.mo; have hb := hb hv0
 have hol := hm.ol; have hi1 := hm.i1; have hi2 := hm.i2; have hn1 := hm.n1; have hn2 := hm.n2; have hs1 := hm.s1; have hs2 := hm.s2; have hil := hv.il; have hon := hv.ao.n1
 refine au ?_
 apply k2; clear k2; refine kp [0, 1, 2, 3, 4, 15] ?_
 refine ab fun _ k7 => ?_
 refine ae hP hN rfl ?_
 (refine aa rfl fun _ k0 => ?_; simp only [zO, zT, acs, reduceCtorEq, M, E, O, Z, Y, V, Mdl.av, Mdl.cs]; (repeat refine an ?_); (try refine .inl ?_); apply k0; clear k0; simp only [zP, E])
 refine ad ?_
 apply k7; clear k7; refine kp [0, 1, 2, 3, 4, 5, 15] ?_
 refine ab fun _ k8 => ?_
 refine ab fun _ k9 => ?_
 refine ae hP hN rfl ?_
 iterate 5 (refine aa rfl fun _ k0 => ?_; simp only [zO, zT, acs, reduceCtorEq, M, E, O, Z, Y, V, Mdl.av, Mdl.cs]; (repeat refine an ?_); (try refine .inl ?_); apply k0; clear k0; simp only [zP, E])
 refine ad ?_
 apply k9; clear k9; refine kp [0, 1, 2, 3, 4, 5, 15, 20, 21] ?_
 refine az ?_
 refine p6 5 .str 9 (by decide) rfl ?_; simp only [ah, aq, aj, am, Nat.zero_add, E]
 refine bm (fun n10 s10 => ∃ (k : Nat) (u : Nat), (k ≤ x.m.nx.length) ∧ n10 = x.m.nx.length - k ∧ s10 = { env := [(1, .one (.ptr 0 0 0 0)), (2, .one (.str [])), (3, .one (.int .i64 0)), (5, .one (.row 1 u)), (20, .one (.int .i64 (x.m.nx.length : Int))), (21, .one (.int .i64 (k : Int)))], L := [.vars 29 [.str x.nm, .list .str x.ins, .list .str x.outs, .int .i64 x.m.inp, .int .i64 x.m.st, .list (.list (.int .i64)) x.m.nx, .list (.list (.int .i64)) x.m.ot], .row .str 9 u (qs k)] }) ?_ ?_
 ·exact ⟨_, _, aE [1, 2, 3, 5, 20, 21], 0, 0, Nat.zero_le _, rfl, rfl⟩
 rintro n10 s10 ⟨k, u, hk, rfl, rfl⟩
 refine ab fun _ k11 => ?_
 refine ae hP hN rfl ?_
 (refine aa rfl fun _ k0 => ?_; simp only [zO, zT, acs, reduceCtorEq, M, E, O, Z, Y, V, Mdl.av, Mdl.cs]; (repeat refine an ?_); (try refine .inl ?_); apply k0; clear k0; simp only [zP, E])
 refine ad ?_
 apply k11; clear k11; refine kp [1, 2, 3, 5, 20, 21, 22] ?_
 refine ab fun _ k12 => ?_
 refine cd (fun hc13 => ?_) (fun hc13 => ?_)
 ·(try simp only [zB, reduceCtorEq] at hc13)
  refine au ?_
  apply k12; clear k12; refine kp [1, 2, 3, 5, 20, 21, 22] ?_
  refine ab fun _ k14 => ?_
  refine az ?_
  refine ab fun _ k15 => ?_
  refine ae hP hN rfl ?_
  iterate 2 (refine aa rfl fun _ k0 => ?_; simp only [zO, zT, acs, reduceCtorEq, M, E, O, Z, Y, V, Mdl.av, Mdl.cs]; (repeat refine an ?_); (try refine .inl ?_); apply k0; clear k0; simp only [zP, E])
  refine ad ?_
  apply k15; clear k15; refine kp [1, 2, 3, 5, 6, 20, 21, 22] ?_
  refine ae hP hN rfl ?_
  iterate 2 (refine aa rfl fun _ k0 => ?_; simp only [zO, zT, acs, reduceCtorEq, M, E, O, Z, Y, V, Mdl.av, Mdl.cs, cu]; (repeat refine an ?_); (try refine .inl ?_); apply k0; clear k0; simp only [zP, E])
  refine aa rfl fun _ k0 => ?_
  refine ay (h := ak (lm (k : Int) (by omega) (by omega))) rfl rfl (by first | exact rfl | (simp only [ev, zP, M, E]; exact rfl)) (by simp only [zV, acs, reduceCtorEq, M, E, O, Z, Y, V, Mdl.av, Mdl.cs, cu]) ?_
  apply k0; clear k0; simp only [zP, E]
  iterate 3 (refine aa rfl fun _ k0 => ?_; simp only [zO, zT, acs, reduceCtorEq, M, E, O, Z, Y, V, Mdl.av, Mdl.cs, cu]; (repeat refine an ?_); (try refine .inl ?_); apply k0; clear k0; simp only [zP, E])
  refine ad ?_
  apply k14; clear k14; refine kp [1, 2, 3, 5, 6, 20, 21, 22] ?_
  refine ae hP hN rfl ?_
  iterate 2 (refine aa rfl fun _ k0 => ?_; simp only [zO, zT, acs, reduceCtorEq, M, E, O, Z, Y, V, Mdl.av, Mdl.cs]; (repeat refine an ?_); (try refine .inl ?_); apply k0; clear k0; simp only [zP, E])
  refine ad ?_
  refine ⟨_, _, ?_, aE [1, 2, 3, 5, 20, 21], k + 1, u + 1, by omega, rfl, by rw [ss]; rfl⟩
  omega
 (try simp only [zB, reduceCtorEq] at hc13)
 refine bg ?_
 apply k8; clear k8; refine kp [1, 2, 3, 5, 20, 21, 22] ?_
 refine ab fun _ k16 => ?_
 obtain rfl : k = x.m.nx.length := by omega
 refine jF 1 rfl ?_; simp only [aU, bI, zS, M, and_self, and_true, true_and, and_false, false_and, if_true, if_false, eq_self, reduceCtorEq, Nat.one_ne_zero, Nat.zero_ne_one]
 refine rr ?_; simp only [aj, List.append_assoc, am]
 have hj1 := f0 hv ([105, 110, 112, 117, 116, 115, 32] ++ Lib.join x.ins [32]) (by simp [hdT])
 have hj2 := f0 hv ([111, 117, 116, 112, 117, 116, 115, 32] ++ Lib.join x.outs [32]) (by simp [hdT])
 have hj3 := f0 hv ([115, 116, 97, 116, 101, 115, 32] ++ Lib.join (qs x.m.nx.length) [32]) (by simp [hdT])
 have hj4 := f0 hv ([115, 116, 97, 114, 116, 32] ++ qn x.m.st.toNat) (by simp [hdT])
 have hj5 := (dg hv.nm).2.2
 have hj6 := cu x.m.nx.length
 simp only [ag, ah, aq] at hj1 hj2 hj3 hj4
 refine cw hP hN Tryd.mixed rfl ?_
 iterate 6 (refine aa rfl fun _ k0 => ?_; simp only [zO, zT, acs, reduceCtorEq, M, E, O, Z, Y, V, Mdl.av, Mdl.cs, ag, ah, aq]; (repeat refine an ?_); (try refine .inl ?_); apply k0; clear k0; simp only [zP, E])
 refine aa rfl fun _ k0 => ?_
 refine ay (h := ak (fv x.ins [32] (by omega) (by omega))) rfl rfl (by first | exact rfl | (simp only [ev, zP, M, E]; exact rfl)) (by simp only [zV, acs, reduceCtorEq, M, E, O, Z, Y, V, Mdl.av, Mdl.cs, ag, ah, aq]) ?_
 apply k0; clear k0; simp only [zP, E]
 iterate 4 (refine aa rfl fun _ k0 => ?_; simp only [zO, zT, acs, reduceCtorEq, M, E, O, Z, Y, V, Mdl.av, Mdl.cs, ag, ah, aq]; (repeat refine an ?_); (try refine .inl ?_); apply k0; clear k0; simp only [zP, E])
 refine aa rfl fun _ k0 => ?_
 refine ay (h := ak (fv x.outs [32] (by omega) (by omega))) rfl rfl (by first | exact rfl | (simp only [ev, zP, M, E]; exact rfl)) (by simp only [zV, acs, reduceCtorEq, M, E, O, Z, Y, V, Mdl.av, Mdl.cs, ag, ah, aq]) ?_
 apply k0; clear k0; simp only [zP, E]
 iterate 2 (refine aa rfl fun _ k0 => ?_; simp only [zO, zT, acs, reduceCtorEq, M, E, O, Z, Y, V, Mdl.av, Mdl.cs, ag, ah, aq]; (repeat refine an ?_); (try refine .inl ?_); apply k0; clear k0; simp only [zP, E])
 refine aa rfl fun _ k0 => ?_
 refine ay (h := ak (fv (qs x.m.nx.length) [32] (by omega) (by omega))) rfl rfl (by first | exact rfl | (simp only [ev, zP, M, E]; exact rfl)) (by simp only [zV, acs, reduceCtorEq, M, E, O, Z, Y, V, Mdl.av, Mdl.cs, ag, ah, aq]) ?_
 apply k0; clear k0; simp only [zP, E]
 iterate 4 (refine aa rfl fun _ k0 => ?_; simp only [zO, zT, acs, reduceCtorEq, M, E, O, Z, Y, V, Mdl.av, Mdl.cs, ag, ah, aq]; (repeat refine an ?_); (try refine .inl ?_); apply k0; clear k0; simp only [zP, E])
 refine aa rfl fun _ k0 => ?_
 refine ay (h := ak (lm x.m.st (by omega) (by omega))) rfl rfl (by first | exact rfl | (simp only [ev, zP, M, E]; exact rfl)) (by simp only [zV, acs, reduceCtorEq, M, E, O, Z, Y, V, Mdl.av, Mdl.cs, ag, ah, aq]) ?_
 apply k0; clear k0; simp only [zP, E]
 (refine aa rfl fun _ k0 => ?_; simp only [zO, zT, acs, reduceCtorEq, M, E, O, Z, Y, V, Mdl.av, Mdl.cs, ag, ah, aq]; (repeat refine an ?_); (try refine .inl ?_); apply k0; clear k0; simp only [zP, E])
 (refine aa rfl fun _ k0 => ?_; simp only [zO, zT, acs, reduceCtorEq, M, E, O, Z, Y, V, Mdl.av, Mdl.cs, ag, ah, aq]; (repeat refine an ?_); refine Or.inr (Or.inr (Or.inl ⟨2, by exact rfl, ?_⟩)); refine k0 _ ?_; clear k0; simp only [zP, E])
 (refine aa rfl fun _ k0 => ?_; simp only [zO, zT, acs, reduceCtorEq, M, E, O, Z, Y, V, Mdl.av, Mdl.cs, ag, ah, aq]; (repeat refine an ?_); (try refine .inl ?_); apply k0; clear k0; simp only [zP, E])
 refine ad ?_
 refine ⟨by kernel_rfl, ?_⟩
 apply k16; clear k16; refine kp [1, 2, 3, 5, 7, 20, 21, 22] ?_
 refine ab fun _ k17 => ?_
 refine ab fun _ k18 => ?_
 refine ae hP hN rfl ?_
 iterate 5 (refine aa rfl fun _ k0 => ?_; simp only [zO, zT, acs, reduceCtorEq, M, E, O, Z, Y, V, Mdl.av, Mdl.cs]; (repeat refine an ?_); (try refine .inl ?_); apply k0; clear k0; simp only [zP, E])
 refine ad ?_
 apply k18; clear k18; refine kp [1, 2, 3, 5, 7, 20, 21, 22, 54, 55, 56] ?_
 refine az ?_
 refine bm (fun n19 s19 => ∃ (s : Nat) (v : Nat), (s ≤ x.m.nx.length) ∧ n19 = x.m.nx.length - s ∧ s19 = { env := [(1, .one (.ptr 0 0 0 0)), (2, .one (.str [])), (3, .one (.int .i64 0)), (5, .one (.list .str (qs x.m.nx.length))), (7, .one (.row 2 v)), (54, .one (.list (.list (.int .i64)) x.m.nx)), (55, .one (.int .i64 (x.m.nx.length : Int))), (56, .one (.int .i64 (s : Int)))], L := [.vars 29 [.str x.nm, .list .str x.ins, .list .str x.outs, .int .i64 x.m.inp, .int .i64 x.m.st, .list (.list (.int .i64)) x.m.nx, .list (.list (.int .i64)) x.m.ot], .dead u, .row .str 9 v (hdT x ++ dC x s)] }) ?_ ?_
 ·exact ⟨_, _, aE [1, 2, 3, 5, 7, 54, 55, 56], 0, 1, Nat.zero_le _, rfl, by simp only [dC, List.range_zero, bI, List.flatten_nil, List.append_nil]; rfl⟩
 rintro n19 s19 ⟨s, v, hs, rfl, rfl⟩
 refine ab fun _ k20 => ?_
 refine ae hP hN rfl ?_
 (refine aa rfl fun _ k0 => ?_; simp only [zO, zT, acs, reduceCtorEq, M, E, O, Z, Y, V, Mdl.av, Mdl.cs]; (repeat refine an ?_); (try refine .inl ?_); apply k0; clear k0; simp only [zP, E])
 refine ad ?_
 apply k20; clear k20; refine kp [1, 2, 3, 5, 7, 54, 55, 56, 57] ?_
 refine ab fun _ k21 => ?_
 refine cd (fun hc22 => ?_) (fun hc22 => ?_)
 ·(try simp only [zB, reduceCtorEq] at hc22)
  refine au ?_
  apply k21; clear k21; refine kp [1, 2, 3, 5, 7, 54, 55, 56, 57] ?_
  refine ab fun _ k23 => ?_
  refine az ?_
  refine ab fun _ k24 => ?_
  have hrl := hm.rl s (by omega)
  refine ae hP hN rfl ?_
  iterate 5 (refine aa rfl fun _ k0 => ?_; simp only [zO, zT, acs, reduceCtorEq, M, E, O, Z, Y, V, Mdl.av, Mdl.cs]; (repeat refine an ?_); (try refine .inl ?_); apply k0; clear k0; simp only [zP, E])
  refine ad ?_
  apply k24; clear k24; refine kp [1, 2, 3, 5, 7, 8, 9, 54, 55, 56, 57] ?_
  refine ab fun _ k25 => ?_
  refine ae hP hN rfl ?_
  iterate 3 (refine aa rfl fun _ k0 => ?_; simp only [zO, zT, acs, reduceCtorEq, M, E, O, Z, Y, V, Mdl.av, Mdl.cs]; (repeat refine an ?_); (try refine .inl ?_); apply k0; clear k0; simp only [zP, E])
  refine ad ?_
  apply k25; clear k25; refine kp [1, 2, 3, 5, 7, 8, 9, 54, 55, 56, 57, 61, 62, 63] ?_
  refine az ?_
  refine bm (fun n26 s26 => ∃ (j : Nat) (v : Nat), (j ≤ (x.m.nx.getD s []).length) ∧ n26 = (x.m.nx.getD s []).length - j ∧ s26 = { env := [(1, .one (.ptr 0 0 0 0)), (2, .one (.str [])), (3, .one (.int .i64 0)), (5, .one (.list .str (qs x.m.nx.length))), (7, .one (.row 2 v)), (8, .one (.int .i64 (s : Int))), (9, .one (.list (.int .i64) (x.m.nx.getD s []))), (54, .one (.list (.list (.int .i64)) x.m.nx)), (55, .one (.int .i64 (x.m.nx.length : Int))), (56, .one (.int .i64 (s : Int))), (57, .one (.bool (decide ((s : Int) < x.m.nx.length)))), (61, .one (.list (.int .i64) (x.m.nx.getD s []))), (62, .one (.int .i64 ((x.m.nx.getD s []).length : Int))), (63, .one (.int .i64 (j : Int)))], L := [.vars 29 [.str x.nm, .list .str x.ins, .list .str x.outs, .int .i64 x.m.inp, .int .i64 x.m.st, .list (.list (.int .i64)) x.m.nx, .list (.list (.int .i64)) x.m.ot], .dead u, .row .str 9 v (hdT x ++ dC x s ++ eF x s j)] }) ?_ ?_
  ·exact ⟨_, _, aE [1, 2, 3, 5, 7, 8, 9, 54, 55, 56, 57, 61, 62, 63], 0, v, Nat.zero_le _, rfl, by simp only [eF, List.range_zero, bI, List.append_nil]; rfl⟩
  rintro n26 s26 ⟨j, v, hj, rfl, rfl⟩
  refine ab fun _ k27 => ?_
  refine ae hP hN rfl ?_
  (refine aa rfl fun _ k0 => ?_; simp only [zO, zT, acs, reduceCtorEq, M, E, O, Z, Y, V, Mdl.av, Mdl.cs]; (repeat refine an ?_); (try refine .inl ?_); apply k0; clear k0; simp only [zP, E])
  refine ad ?_
  apply k27; clear k27; refine kp [1, 2, 3, 5, 7, 8, 9, 54, 55, 56, 57, 61, 62, 63, 64] ?_
  refine ab fun _ k28 => ?_
  refine cd (fun hc29 => ?_) (fun hc29 => ?_)
  ·(try simp only [zB, reduceCtorEq] at hc29)
   refine au ?_
   apply k28; clear k28; refine kp [1, 2, 3, 5, 7, 8, 9, 54, 55, 56, 57, 61, 62, 63, 64] ?_
   refine ab fun _ k30 => ?_
   refine az ?_
   refine ab fun _ k31 => ?_
   refine ae hP hN rfl ?_
   iterate 5 (refine aa rfl fun _ k0 => ?_; simp only [zO, zT, acs, reduceCtorEq, M, E, O, Z, Y, V, Mdl.av, Mdl.cs]; (repeat refine an ?_); (try refine .inl ?_); apply k0; clear k0; simp only [zP, E])
   refine ad ?_
   apply k31; clear k31; refine kp [1, 2, 3, 5, 7, 8, 9, 10, 11, 54, 55, 56, 57, 61, 62, 63, 64] ?_
   have hrl := hm.rl s (by omega); have hql := hm.ql s (by omega)
   have hnr := hm.nr s j (by omega) (by omega); have hor := hm.or s j (by omega) (by omega); have hox := hv.ol s j (by omega) (by omega)
   have hq1 := d7 (n := x.m.nx.length) (i := s) (by omega)
   have hq2 := d7 (n := x.m.nx.length) (i := ((x.m.nx.getD s []).getD j 0).toNat) (by omega)
   have hl1 := gx (n := s) (by omega); have hl2 := gx (n := ((x.m.nx.getD s []).getD j 0).toNat) (by omega)
   have hl3 := gI hv.ai j; have hl4 := gI hv.ao ((x.m.ot.getD s []).getD j 0).toNat
   have hqn := cu x.m.nx.length
   have htl := i9 hv (k := s) (by omega)
   have hrn := l8 x s j; have hh5 : (hdT x).length = 5 := rfl
   refine cw hP hN Tryd.mixed rfl ?_
   iterate 38 (refine aa rfl fun _ k0 => ?_; simp only [zO, zT, acs, reduceCtorEq, M, E, O, Z, Y, V, Mdl.av, Mdl.cs, hq1, hq2, ag, ah, aq, aK]; (repeat refine an ?_); (try refine .inl ?_); apply k0; clear k0; simp only [zP, E])
   refine ad ?_
   refine ⟨by kernel_rfl, ?_⟩
   apply k30; clear k30; refine kp [1, 2, 3, 5, 7, 8, 9, 10, 11, 54, 55, 56, 57, 61, 62, 63, 64] ?_
   refine ae hP hN rfl ?_
   iterate 2 (refine aa rfl fun _ k0 => ?_; simp only [zO, zT, acs, reduceCtorEq, M, E, O, Z, Y, V, Mdl.av, Mdl.cs]; (repeat refine an ?_); (try refine .inl ?_); apply k0; clear k0; simp only [zP, E])
   refine ad ?_
   refine ⟨_, _, ?_, aE [1, 2, 3, 5, 7, 8, 9, 54, 55, 56, 57, 61, 62, 63], j + 1, v + 1, by omega, rfl, ?_⟩
   · omega
   · rw [o0, ← List.append_assoc]; rfl
  (try simp only [zB, reduceCtorEq] at hc29)
  refine bg ?_
  apply k23; clear k23; refine kp [1, 2, 3, 5, 7, 8, 9, 54, 55, 56, 57, 61, 62, 63, 64] ?_
  refine ae hP hN rfl ?_
  iterate 2 (refine aa rfl fun _ k0 => ?_; simp only [zO, zT, acs, reduceCtorEq, M, E, O, Z, Y, V, Mdl.av, Mdl.cs]; (repeat refine an ?_); (try refine .inl ?_); apply k0; clear k0; simp only [zP, E])
  refine ad ?_
  refine ⟨_, _, ?_, aE [1, 2, 3, 5, 7, 54, 55, 56], s + 1, v, by omega, rfl, ?_⟩
  · omega
  · rw [i8, ← List.append_assoc, show (x.m.nx.getD s []).length = j by omega]; rfl
 (try simp only [zB, reduceCtorEq] at hc22)
 refine bg ?_
 apply k17; clear k17; refine kp [1, 2, 3, 5, 7, 54, 55, 56, 57] ?_
 refine ab fun _ k32 => ?_
 obtain rfl : s = x.m.nx.length := by omega
 refine jF 2 rfl ?_; simp only [aU, bI, zS, M, and_self, and_true, true_and, and_false, false_and, if_true, if_false, eq_self, reduceCtorEq, Nat.one_ne_zero, Nat.zero_ne_one]
 have hsl := qO hv; have htl := i9 hv (Nat.le_refl _); have hh5 : (hdT x).length = 5 := rfl
 refine ae hP hN rfl ?_
 (refine aa rfl fun _ k0 => ?_; simp only [zO, zT, acs, reduceCtorEq, M, E, O, Z, Y, V, Mdl.av, Mdl.cs, ag, ah, aq]; (repeat refine an ?_); (try refine .inl ?_); apply k0; clear k0; simp only [zP, E])
 refine aa rfl fun _ k0 => ?_
 refine ay (h := ak (fv (hdT x ++ dC x x.m.nx.length) [10] (by rw [ag]; omega) (by omega))) rfl rfl (by first | exact rfl | (simp only [ev, zP, M, E]; exact rfl)) (by simp only [zV, acs, reduceCtorEq, M, E, O, Z, Y, V, Mdl.av, Mdl.cs, ag, ah, aq]) ?_
 apply k0; clear k0; simp only [zP, E]
 iterate 3 (refine aa rfl fun _ k0 => ?_; simp only [zO, zT, acs, reduceCtorEq, M, E, O, Z, Y, V, Mdl.av, Mdl.cs, ag, ah, aq]; (repeat refine an ?_); (try refine .inl ?_); apply k0; clear k0; simp only [zP, E])
 refine ad ?_
 apply k32; clear k32; refine kp [1, 2, 3, 5, 7, 54, 55, 56, 57] ?_
 refine ar ?_
 refine ⟨nr, _, rfl, ?_⟩; simp only [zF, zP, M, E, Mdl.av, Mdl.cs]
 refine VLE.of_eq ?_
 first | (rw [qE (by assumption)]; done) | (rw [kC (by assumption), ‹mvE x = 0›]; done)
theorem uD : bE Tryd.prog 11 [.one (.str gtA)] (.tup [dT.av, .one (.int .i64 0), .one (.int .i64 0)]) := by
  have h := eh gtA (by decide +kernel)
  rw [uf] at h
  exact h
theorem sJ : bE Tryd.prog 9 [dT.av] (.tup [.one (.str gtA), .one (.int .i64 0)]) := by
  have h := ml dT (fun _ => by decide)
  rw [qD, nT] at h
  exact h
theorem uA : bE Tryd.prog 11 [.one (.str gtx)] (.tup [(PM gtx).1.av, .one (.int .i64 9), .one (.int .i64 12)]) := by
  have h := eh gtx (by decide +kernel)
  rw [congrArg Prod.fst qQ, congrArg Prod.snd qQ] at h
  exact h
theorem uK : bE Tryd.prog 11 [.one (.str gtB)] (.tup [(PM gtB).1.av, .one (.int .i64 9), .one (.int .i64 8)]) := by
  have h := eh gtB (by decide +kernel)
  rw [congrArg Prod.fst qj, congrArg Prod.snd qj] at h
  exact h
theorem uM : bE Tryd.prog 11 [.one (.str gtC)] (.tup [(PM gtC).1.av, .one (.int .i64 9), .one (.int .i64 7)]) := by
  have h := eh gtC (by decide +kernel)
  rw [congrArg Prod.fst qI, congrArg Prod.snd qI] at h
  exact h
theorem uF : bE Tryd.prog 11 [.one (.str [])] (.tup [(PM []).1.av, .one (.int .i64 1), .one (.int .i64 12)]) := by
  have h := eh [] (by decide +kernel)
  rw [congrArg Prod.fst qM, congrArg Prod.snd qM] at h
  exact h
theorem nq (a b : List Bs) : bE Tryd.prog 40 [.one (.list .str a), .one (.list .str b)] (.one (.bool (decide (a = b)))) := by
 refine aO Tryd.func40 rfl (by kernel_rfl) (Nat.le_of_ble_eq_true rfl) rfl fun C hP hN hB => ?_
 replace hN : C.N = 26 := hN
 simp only [aS, E]
 refine fV 0 rfl fun hf0 => ?_; simp only [lkp, if_true, if_false, reduceCtorEq, M, eq_self, Nat.one_ne_zero, Nat.zero_ne_one, li, jG, jP, Fit, and_true, implies_true, true_and] at hf0
 refine ab fun _ k1 => ?_
 refine ae hP hN rfl ?_
 (refine aa rfl fun _ k0 => ?_; simp only [zO, zT, acs, reduceCtorEq, M, E, O, Z, Y, V]; (repeat refine an ?_); (try refine .inl ?_); apply k0; clear k0; simp only [zP, E])
 refine ad ?_
 apply k1; clear k1; refine kp [0, 1, 4] ?_
 refine ab fun _ k2 => ?_
 refine ab fun _ k3 => ?_
 refine ae hP hN rfl ?_
 iterate 5 (refine aa rfl fun _ k0 => ?_; simp only [zO, zT, acs, reduceCtorEq, M, E, O, Z, Y, V]; (repeat refine an ?_); (try refine .inl ?_); apply k0; clear k0; simp only [zP, E])
 refine ad ?_
 apply k3; clear k3; refine kp [0, 1, 4, 10] ?_
 refine cd (fun hc4 => ?_) (fun hc4 => ?_)
 ·(try simp only [zB, reduceCtorEq] at hc4)
  have hle : ¬ a.length = b.length := by omega
  refine ab fun _ k5 => ?_
  refine ae hP hN rfl ?_
  (refine aa rfl fun _ k0 => ?_; simp only [zO, zT, acs, reduceCtorEq, M, E, O, Z, Y, V]; (repeat refine an ?_); (try refine .inl ?_); apply k0; clear k0; simp only [zP, E])
  refine ad ?_
  apply k5; clear k5; refine kp [0, 1, 4, 10] ?_
  refine ar ?_
  refine ⟨nr, _, rfl, ?_⟩; simp only [zF, zP, M, E]
  refine VLE.of_eq ?_
  refine congrArg (fun b => AV.one (AC.bool b)) ?_
  symm
  first
  | exact decide_eq_false fun e => hle (by rw [e])
  | exact decide_eq_false fun e => hne (by rw [e])
  | exact decide_eq_true (nJ hle fun q hq2 => hq q (by omega))
 (try simp only [zB, reduceCtorEq] at hc4)
 have hle : a.length = b.length := by omega
 refine au ?_
 apply k2; clear k2; refine kp [0, 1, 4, 10] ?_
 refine ab fun _ k6 => ?_
 refine ab fun _ k7 => ?_
 refine ae hP hN rfl ?_
 (refine aa rfl fun _ k0 => ?_; simp only [zO, zT, acs, reduceCtorEq, M, E, O, Z, Y, V]; (repeat refine an ?_); (try refine .inl ?_); apply k0; clear k0; simp only [zP, E])
 refine ad ?_
 apply k7; clear k7; refine kp [0, 1, 4, 5, 10] ?_
 refine az ?_
 refine bm (fun n8 s8 => ∃ (k : Nat), (k ≤ a.length) ∧ (∀ q, q < k → a.getD q [] = b.getD q []) ∧ n8 = a.length - k ∧ s8 = { env := [(0, .one (.list .str a)), (1, .one (.list .str b)), (4, .one (.bool false)), (5, .one (.int .i64 (k : Int)))], L := [] }) ?_ ?_
 ·exact ⟨_, _, aE [0, 1, 4, 5], 0, Nat.zero_le _, fun q hq => by omega, rfl, rfl⟩
 rintro n8 s8 ⟨k, hk, hq, rfl, rfl⟩
 refine ab fun _ k9 => ?_
 refine ab fun _ k10 => ?_
 refine ae hP hN rfl ?_
 iterate 4 (refine aa rfl fun _ k0 => ?_; simp only [zO, zT, acs, reduceCtorEq, M, E, O, Z, Y, V]; (repeat refine an ?_); (try refine .inl ?_); apply k0; clear k0; simp only [zP, E])
 refine ad ?_
 apply k10; clear k10; refine kp [0, 1, 4, 5, 14] ?_
 refine cd (fun hc11 => ?_) (fun hc11 => ?_)
 ·(try simp only [zB, reduceCtorEq] at hc11)
  refine au ?_
  apply k9; clear k9; refine kp [0, 1, 4, 5, 14] ?_
  refine ab fun _ k12 => ?_
  refine az ?_
  refine ab fun _ k13 => ?_
  refine cw hP hN Tryd.mixed rfl ?_
  iterate 9 (refine aa rfl fun _ k0 => ?_; simp only [zO, zT, acs, reduceCtorEq, M, E, O, Z, Y, V]; (repeat refine an ?_); (try refine .inl ?_); apply k0; clear k0; simp only [zP, E])
  refine ad ?_
  refine ⟨by kernel_rfl, ?_⟩
  apply k13; clear k13; refine kp [0, 1, 4, 5, 14, 25] ?_
  refine cd (fun hc14 => ?_) (fun hc14 => ?_)
  ·(try simp only [zB, reduceCtorEq] at hc14)
   have hne : a.getD k [] ≠ b.getD k [] := by simpa using hc14
   refine ab fun _ k15 => ?_
   refine ae hP hN rfl ?_
   (refine aa rfl fun _ k0 => ?_; simp only [zO, zT, acs, reduceCtorEq, M, E, O, Z, Y, V]; (repeat refine an ?_); (try refine .inl ?_); apply k0; clear k0; simp only [zP, E])
   refine ad ?_
   apply k15; clear k15; refine kp [0, 1, 4, 5, 14, 25] ?_
   refine ar ?_
   refine ⟨nr, _, rfl, ?_⟩; simp only [zF, zP, M, E]
   refine VLE.of_eq ?_
   refine congrArg (fun b => AV.one (AC.bool b)) ?_
   symm
   first
   | exact decide_eq_false fun e => hle (by rw [e])
   | exact decide_eq_false fun e => hne (by rw [e])
   | exact decide_eq_true (nJ hle fun q hq2 => hq q (by omega))
  (try simp only [zB, reduceCtorEq] at hc14)
  have heq : a.getD k [] = b.getD k [] := by simpa using hc14
  refine au ?_
  apply k12; clear k12; refine kp [0, 1, 4, 5, 14, 25] ?_
  refine ae hP hN rfl ?_
  iterate 3 (refine aa rfl fun _ k0 => ?_; simp only [zO, zT, acs, reduceCtorEq, M, E, O, Z, Y, V]; (repeat refine an ?_); (try refine .inl ?_); apply k0; clear k0; simp only [zP, E])
  refine ad ?_
  refine ⟨_, _, ?_, aE [0, 1, 4, 5], k + 1, by omega, fun q hq2 => ?_, rfl, rfl⟩
  · omega
  · by_cases e : q = k
    · rw [e]; exact heq
    · exact hq q (by omega)
 (try simp only [zB, reduceCtorEq] at hc11)
 refine bg ?_
 apply k6; clear k6; refine kp [0, 1, 4, 5, 14] ?_
 refine ab fun _ k16 => ?_
 refine ae hP hN rfl ?_
 (refine aa rfl fun _ k0 => ?_; simp only [zO, zT, acs, reduceCtorEq, M, E, O, Z, Y, V]; (repeat refine an ?_); (try refine .inl ?_); apply k0; clear k0; simp only [zP, E])
 refine ad ?_
 apply k16; clear k16; refine kp [0, 1, 4, 5, 14] ?_
 refine ar ?_
 refine ⟨nr, _, rfl, ?_⟩; simp only [zF, zP, M, E]
 refine VLE.of_eq ?_
 refine congrArg (fun b => AV.one (AC.bool b)) ?_
 symm
 first
 | exact decide_eq_false fun e => hle (by rw [e])
 | exact decide_eq_false fun e => hne (by rw [e])
 | exact decide_eq_true (nJ hle fun q hq2 => hq q (by omega))
theorem nc (a b : List Bs) : bE Tryd.prog 25 [.agg [.list .str a], .agg [.list .str b]] (.one (.bool (decide (a = b)))) := by
 refine aO Tryd.func25 rfl (by kernel_rfl) (Nat.le_of_ble_eq_true rfl) rfl fun C hP hN hB => ?_
 replace hN : C.N = 10 := hN
 simp only [aS, E]
 refine ab fun _ k1 => ?_
 refine ae hP hN rfl ?_
 iterate 3 (refine aa rfl fun _ k0 => ?_; simp only [zO, zT, acs, reduceCtorEq, M, E, O, Z, Y, V]; (repeat refine an ?_); (try refine .inl ?_); apply k0; clear k0; simp only [zP, E])
 refine ad ?_
 apply k1; clear k1; refine kp [0, 1, 2, 3, 4] ?_
 refine ab fun _ k2 => ?_
 refine ae hP hN rfl ?_
 iterate 4 (refine aa rfl fun _ k0 => ?_; simp only [zO, zT, acs, reduceCtorEq, M, E, O, Z, Y, V]; (repeat refine an ?_); (try refine .inl ?_); apply k0; clear k0; simp only [zP, E])
 refine aa rfl fun _ k0 => ?_
 refine ay (h := ak (nq a b)) rfl rfl (by first | exact rfl | (simp only [ev, zP, M, E]; exact rfl)) (by simp only [zV, acs, reduceCtorEq, M, E, O, Z, Y, V]) ?_
 apply k0; clear k0; simp only [zP, E]
 (refine aa rfl fun _ k0 => ?_; simp only [zO, zT, acs, reduceCtorEq, M, E, O, Z, Y, V]; (repeat refine an ?_); (try refine .inl ?_); apply k0; clear k0; simp only [zP, E])
 refine ad ?_
 apply k2; clear k2; refine kp [0, 1, 2, 3, 4] ?_
 refine ar ?_
 refine ⟨nr, _, rfl, ?_⟩; simp only [zF, zP, M, E]
 refine VLE.of_eq ?_
 rfl
theorem tV (xs ys : List Int) : bE Tryd.prog 53 [.one (.list (.int .i64) xs), .one (.list (.int .i64) ys)] (.one (.bool (decide (xs = ys)))) := by
 refine aO Tryd.func53 rfl (by kernel_rfl) (Nat.le_of_ble_eq_true rfl) rfl fun C hP hN hB => ?_
 replace hN : C.N = 26 := hN
 simp only [aS, E]
 refine fV 0 rfl fun hf0 => ?_; simp only [lkp, if_true, if_false, reduceCtorEq, M, eq_self, Nat.one_ne_zero, Nat.zero_ne_one, li, jG, jP, Fit, and_true, implies_true, true_and] at hf0
 refine ab fun _ k1 => ?_
 refine ae hP hN rfl ?_
 (refine aa rfl fun _ k0 => ?_; simp only [zO, zT, acs, reduceCtorEq, M, E, O, Z, Y, V]; (repeat refine an ?_); (try refine .inl ?_); apply k0; clear k0; simp only [zP, E])
 refine ad ?_
 apply k1; clear k1; refine kp [0, 1, 4] ?_
 refine ab fun _ k2 => ?_
 refine ab fun _ k3 => ?_
 refine ae hP hN rfl ?_
 iterate 5 (refine aa rfl fun _ k0 => ?_; simp only [zO, zT, acs, reduceCtorEq, M, E, O, Z, Y, V]; (repeat refine an ?_); (try refine .inl ?_); apply k0; clear k0; simp only [zP, E])
 refine ad ?_
 apply k3; clear k3; refine kp [0, 1, 4, 10] ?_
 refine cd (fun hc4 => ?_) (fun hc4 => ?_)
 ·(try simp only [zB, reduceCtorEq] at hc4)
  refine ab fun _ k5 => ?_
  refine ae hP hN rfl ?_
  (refine aa rfl fun _ k0 => ?_; simp only [zO, zT, acs, reduceCtorEq, M, E, O, Z, Y, V]; (repeat refine an ?_); (try refine .inl ?_); apply k0; clear k0; simp only [zP, E])
  refine ad ?_
  apply k5; clear k5; refine kp [0, 1, 4, 10] ?_
  refine ar ?_
  refine ⟨nr, _, rfl, ?_⟩; simp only [zF, zP, M, E]
  refine VLE.of_eq ?_
  first
  | (refine dm ?_; rintro rfl; first | exact absurd rfl ‹¬ _› | omega)
  | (refine dL ?_; have hk1 : k = xs.length := by omega
     have hk2 : k = ys.length := by omega
     rw [hk1, aG, ← hk1, hk2, aG] at hT; exact hT)
 (try simp only [zB, reduceCtorEq] at hc4)
 refine au ?_
 apply k2; clear k2; refine kp [0, 1, 4, 10] ?_
 refine ab fun _ k6 => ?_
 refine ab fun _ k7 => ?_
 refine ae hP hN rfl ?_
 (refine aa rfl fun _ k0 => ?_; simp only [zO, zT, acs, reduceCtorEq, M, E, O, Z, Y, V]; (repeat refine an ?_); (try refine .inl ?_); apply k0; clear k0; simp only [zP, E])
 refine ad ?_
 apply k7; clear k7; refine kp [0, 1, 4, 5, 10] ?_
 refine az ?_
 refine bm (fun n8 s8 => ∃ (k : Nat), (k ≤ xs.length) ∧ (xs.take k = ys.take k) ∧ n8 = xs.length - k ∧ s8 = { env := [(0, .one (.list (.int .i64) xs)), (1, .one (.list (.int .i64) ys)), (5, .one (.int .i64 (k : Int)))], L := [] }) ?_ ?_
 ·exact ⟨_, _, aE [0, 1, 5], 0, Nat.zero_le _, rfl, rfl, rfl⟩
 rintro n8 s8 ⟨k, hk, hT, rfl, rfl⟩
 refine ab fun _ k9 => ?_
 refine ab fun _ k10 => ?_
 refine ae hP hN rfl ?_
 iterate 4 (refine aa rfl fun _ k0 => ?_; simp only [zO, zT, acs, reduceCtorEq, M, E, O, Z, Y, V]; (repeat refine an ?_); (try refine .inl ?_); apply k0; clear k0; simp only [zP, E])
 refine ad ?_
 apply k10; clear k10; refine kp [0, 1, 5, 14] ?_
 refine cd (fun hc11 => ?_) (fun hc11 => ?_)
 ·(try simp only [zB, reduceCtorEq] at hc11)
  refine au ?_
  apply k9; clear k9; refine kp [0, 1, 5, 14] ?_
  refine ab fun _ k12 => ?_
  refine az ?_
  refine ab fun _ k13 => ?_
  refine cw hP hN Tryd.mixed rfl ?_
  iterate 9 (refine aa rfl fun _ k0 => ?_; simp only [zO, zT, acs, reduceCtorEq, M, E, O, Z, Y, V]; (repeat refine an ?_); (try refine .inl ?_); apply k0; clear k0; simp only [zP, E])
  refine ad ?_
  refine ⟨by kernel_rfl, ?_⟩
  apply k13; clear k13; refine kp [0, 1, 5, 14, 25] ?_
  refine cd (fun hc14 => ?_) (fun hc14 => ?_)
  ·(try simp only [zB, reduceCtorEq] at hc14)
   refine ab fun _ k15 => ?_
   refine ae hP hN rfl ?_
   (refine aa rfl fun _ k0 => ?_; simp only [zO, zT, acs, reduceCtorEq, M, E, O, Z, Y, V]; (repeat refine an ?_); (try refine .inl ?_); apply k0; clear k0; simp only [zP, E])
   refine ad ?_
   apply k15; clear k15; refine kp [0, 1, 4, 5, 14, 25] ?_
   refine ar ?_
   refine ⟨nr, _, rfl, ?_⟩; simp only [zF, zP, M, E]
   refine VLE.of_eq ?_
   first
   | (refine dm ?_; rintro rfl; first | exact absurd rfl ‹¬ _› | omega)
   | (refine dL ?_; have hk1 : k = xs.length := by omega
      have hk2 : k = ys.length := by omega
      rw [hk1, aG, ← hk1, hk2, aG] at hT; exact hT)
  (try simp only [zB, reduceCtorEq] at hc14)
  refine au ?_
  apply k12; clear k12; refine kp [0, 1, 5, 14, 25] ?_
  refine ae hP hN rfl ?_
  iterate 3 (refine aa rfl fun _ k0 => ?_; simp only [zO, zT, acs, reduceCtorEq, M, E, O, Z, Y, V]; (repeat refine an ?_); (try refine .inl ?_); apply k0; clear k0; simp only [zP, E])
  refine ad ?_
  refine ⟨_, _, ?_, aE [0, 1, 5], k + 1, by omega, gX (d := 0) hT (by omega) (by omega) ?_, rfl, rfl⟩
  · omega
  · first | assumption | omega
 (try simp only [zB, reduceCtorEq] at hc11)
 refine bg ?_
 apply k6; clear k6; refine kp [0, 1, 5, 14] ?_
 refine ab fun _ k16 => ?_
 refine ae hP hN rfl ?_
 (refine aa rfl fun _ k0 => ?_; simp only [zO, zT, acs, reduceCtorEq, M, E, O, Z, Y, V]; (repeat refine an ?_); (try refine .inl ?_); apply k0; clear k0; simp only [zP, E])
 refine ad ?_
 apply k16; clear k16; refine kp [0, 1, 4, 5, 14] ?_
 refine ar ?_
 refine ⟨nr, _, rfl, ?_⟩; simp only [zF, zP, M, E]
 refine VLE.of_eq ?_
 first
 | (refine dm ?_; rintro rfl; first | exact absurd rfl ‹¬ _› | omega)
 | (refine dL ?_; have hk1 : k = xs.length := by omega
    have hk2 : k = ys.length := by omega
    rw [hk1, aG, ← hk1, hk2, aG] at hT; exact hT)
theorem pu (xs ys : List (List Int)) : bE Tryd.prog 41 [.one (.list (.list (.int .i64)) xs), .one (.list (.list (.int .i64)) ys)] (.one (.bool (decide (xs = ys)))) := by
 refine aO Tryd.func41 rfl (by kernel_rfl) (Nat.le_of_ble_eq_true rfl) rfl fun C hP hN hB => ?_
 replace hN : C.N = 27 := hN
 simp only [aS, E]
 refine fV 0 rfl fun hf0 => ?_; simp only [lkp, if_true, if_false, reduceCtorEq, M, eq_self, Nat.one_ne_zero, Nat.zero_ne_one, li, jG, jP, Fit, and_true, implies_true, true_and] at hf0
 refine ab fun _ k1 => ?_
 refine ae hP hN rfl ?_
 (refine aa rfl fun _ k0 => ?_; simp only [zO, zT, acs, reduceCtorEq, M, E, O, Z, Y, V]; (repeat refine an ?_); (try refine .inl ?_); apply k0; clear k0; simp only [zP, E])
 refine ad ?_
 apply k1; clear k1; refine kp [0, 1, 4] ?_
 refine ab fun _ k2 => ?_
 refine ab fun _ k3 => ?_
 refine ae hP hN rfl ?_
 iterate 5 (refine aa rfl fun _ k0 => ?_; simp only [zO, zT, acs, reduceCtorEq, M, E, O, Z, Y, V]; (repeat refine an ?_); (try refine .inl ?_); apply k0; clear k0; simp only [zP, E])
 refine ad ?_
 apply k3; clear k3; refine kp [0, 1, 4, 10] ?_
 refine cd (fun hc4 => ?_) (fun hc4 => ?_)
 ·(try simp only [zB, reduceCtorEq] at hc4)
  refine ab fun _ k5 => ?_
  refine ae hP hN rfl ?_
  (refine aa rfl fun _ k0 => ?_; simp only [zO, zT, acs, reduceCtorEq, M, E, O, Z, Y, V]; (repeat refine an ?_); (try refine .inl ?_); apply k0; clear k0; simp only [zP, E])
  refine ad ?_
  apply k5; clear k5; refine kp [0, 1, 4, 10] ?_
  refine ar ?_
  refine ⟨nr, _, rfl, ?_⟩; simp only [zF, zP, M, E]
  refine VLE.of_eq ?_
  first
  | (refine dm ?_; rintro rfl; first | exact absurd rfl ‹¬ _› | omega)
  | (refine dL ?_; have hk1 : k = xs.length := by omega
     have hk2 : k = ys.length := by omega
     rw [hk1, aG, ← hk1, hk2, aG] at hT; exact hT)
 (try simp only [zB, reduceCtorEq] at hc4)
 refine au ?_
 apply k2; clear k2; refine kp [0, 1, 4, 10] ?_
 refine ab fun _ k6 => ?_
 refine ab fun _ k7 => ?_
 refine ae hP hN rfl ?_
 (refine aa rfl fun _ k0 => ?_; simp only [zO, zT, acs, reduceCtorEq, M, E, O, Z, Y, V]; (repeat refine an ?_); (try refine .inl ?_); apply k0; clear k0; simp only [zP, E])
 refine ad ?_
 apply k7; clear k7; refine kp [0, 1, 4, 5, 10] ?_
 refine az ?_
 refine bm (fun n8 s8 => ∃ (k : Nat), (k ≤ xs.length) ∧ (xs.take k = ys.take k) ∧ n8 = xs.length - k ∧ s8 = { env := [(0, .one (.list (.list (.int .i64)) xs)), (1, .one (.list (.list (.int .i64)) ys)), (5, .one (.int .i64 (k : Int)))], L := [] }) ?_ ?_
 ·exact ⟨_, _, aE [0, 1, 5], 0, Nat.zero_le _, rfl, rfl, rfl⟩
 rintro n8 s8 ⟨k, hk, hT, rfl, rfl⟩
 refine ab fun _ k9 => ?_
 refine ab fun _ k10 => ?_
 refine ae hP hN rfl ?_
 iterate 4 (refine aa rfl fun _ k0 => ?_; simp only [zO, zT, acs, reduceCtorEq, M, E, O, Z, Y, V]; (repeat refine an ?_); (try refine .inl ?_); apply k0; clear k0; simp only [zP, E])
 refine ad ?_
 apply k10; clear k10; refine kp [0, 1, 5, 14] ?_
 refine cd (fun hc11 => ?_) (fun hc11 => ?_)
 ·(try simp only [zB, reduceCtorEq] at hc11)
  refine au ?_
  apply k9; clear k9; refine kp [0, 1, 5, 14] ?_
  refine ab fun _ k12 => ?_
  refine az ?_
  refine ab fun _ k13 => ?_
  refine cw hP hN Tryd.mixed rfl ?_
  iterate 8 (refine aa rfl fun _ k0 => ?_; simp only [zO, zT, acs, reduceCtorEq, M, E, O, Z, Y, V]; (repeat refine an ?_); (try refine .inl ?_); apply k0; clear k0; simp only [zP, E])
  refine aa rfl fun _ k0 => ?_
  refine ay (h := ak (tV (xs.getD k []) (ys.getD k []))) rfl rfl (by first | exact rfl | (simp only [ev, zP, M, E]; exact rfl)) (by simp only [zV, acs, reduceCtorEq, M, E, O, Z, Y, V]) ?_
  apply k0; clear k0; simp only [zP, E]
  (refine aa rfl fun _ k0 => ?_; simp only [zO, zT, acs, reduceCtorEq, M, E, O, Z, Y, V]; (repeat refine an ?_); (try refine .inl ?_); apply k0; clear k0; simp only [zP, E])
  refine ad ?_
  refine ⟨by kernel_rfl, ?_⟩
  apply k13; clear k13; refine kp [0, 1, 5, 14, 26] ?_
  refine cd (fun hc14 => ?_) (fun hc14 => ?_)
  ·(try simp only [zB, reduceCtorEq] at hc14)
   refine ab fun _ k15 => ?_
   refine ae hP hN rfl ?_
   (refine aa rfl fun _ k0 => ?_; simp only [zO, zT, acs, reduceCtorEq, M, E, O, Z, Y, V]; (repeat refine an ?_); (try refine .inl ?_); apply k0; clear k0; simp only [zP, E])
   refine ad ?_
   apply k15; clear k15; refine kp [0, 1, 4, 5, 14, 26] ?_
   refine ar ?_
   refine ⟨nr, _, rfl, ?_⟩; simp only [zF, zP, M, E]
   refine VLE.of_eq ?_
   first
   | (refine dm ?_; rintro rfl; first | exact absurd rfl ‹¬ _› | omega)
   | (refine dL ?_; have hk1 : k = xs.length := by omega
      have hk2 : k = ys.length := by omega
      rw [hk1, aG, ← hk1, hk2, aG] at hT; exact hT)
  (try simp only [zB, reduceCtorEq] at hc14)
  refine au ?_
  apply k12; clear k12; refine kp [0, 1, 5, 14, 26] ?_
  refine ae hP hN rfl ?_
  iterate 3 (refine aa rfl fun _ k0 => ?_; simp only [zO, zT, acs, reduceCtorEq, M, E, O, Z, Y, V]; (repeat refine an ?_); (try refine .inl ?_); apply k0; clear k0; simp only [zP, E])
  refine ad ?_
  refine ⟨_, _, ?_, aE [0, 1, 5], k + 1, by omega, gX (d := []) hT (by omega) (by omega) ?_, rfl, rfl⟩
  · omega
  · first | assumption | omega
 (try simp only [zB, reduceCtorEq] at hc11)
 refine bg ?_
 apply k6; clear k6; refine kp [0, 1, 5, 14] ?_
 refine ab fun _ k16 => ?_
 refine ae hP hN rfl ?_
 (refine aa rfl fun _ k0 => ?_; simp only [zO, zT, acs, reduceCtorEq, M, E, O, Z, Y, V]; (repeat refine an ?_); (try refine .inl ?_); apply k0; clear k0; simp only [zP, E])
 refine ad ?_
 apply k16; clear k16; refine kp [0, 1, 4, 5, 14] ?_
 refine ar ?_
 refine ⟨nr, _, rfl, ?_⟩; simp only [zF, zP, M, E]
 refine VLE.of_eq ?_
 first
 | (refine dm ?_; rintro rfl; first | exact absurd rfl ‹¬ _› | omega)
 | (refine dL ?_; have hk1 : k = xs.length := by omega
    have hk2 : k = ys.length := by omega
    rw [hk1, aG, ← hk1, hk2, aG] at hT; exact hT)
theorem sw (m n : Mly) : bE Tryd.prog 26 [m.av, n.av] (.one (.bool (iK m n))) := by
 refine aO Tryd.func26 rfl (by kernel_rfl) (Nat.le_of_ble_eq_true rfl) rfl fun C hP hN hB => ?_
 replace hN : C.N = 31 := hN
 simp only [aS, E]
 refine ab fun _ k1 => ?_
 refine ae hP hN rfl ?_
 iterate 3 (refine aa rfl fun _ k0 => ?_; simp only [zO, zT, acs, reduceCtorEq, M, E, O, Z, Y, V, Mly.av]; (repeat refine an ?_); (try refine .inl ?_); apply k0; clear k0; simp only [zP, E])
 refine ad ?_
 apply k1; clear k1; refine kp [0, 1, 2, 3, 4] ?_
 refine ab fun _ k2 => ?_
 refine ae hP hN rfl ?_
 iterate 6 (refine aa rfl fun _ k0 => ?_; simp only [zO, zT, acs, reduceCtorEq, M, E, O, Z, Y, V, Mly.av]; (repeat refine an ?_); (try refine .inl ?_); apply k0; clear k0; simp only [zP, E])
 refine' aw (want := true) 5 rfl (m := 10) (by simp only [zP, M, E]; exact rfl) (by kernel_rfl) rfl rfl rfl rfl rfl (fun hg3 => ?a3) ?b3 ?c3
 case a3 =>
  have hq3 := hg3; (try simp only [zB, reduceCtorEq] at hg3); simp only [zE]
  iterate 5 (refine aL rfl fun _ k0 => ?_; simp only [zO, zT, acs, reduceCtorEq, M, E, O, Z, Y, V, Mly.av]; (repeat refine an ?_); (try refine .inl ?_); apply k0; clear k0; simp only [zP, E])
  (refine aa rfl fun _ k0 => ?_; simp only [zO, zT, acs, reduceCtorEq, M, E, O, Z, Y, V, Mly.av]; (repeat refine an ?_); (try refine .inl ?_); apply k0; clear k0; simp only [zP, E])
  refine ad ?_
  refine ⟨by simp only [zP, M, E]; exact rfl, rfl, ?_, rfl⟩; (repeat refine ax rfl ?_); exact aM (by exact rfl) hq3
 case b3 => exact bj
 simp only [aJ, aC]
 (refine aa rfl fun _ k0 => ?_; simp only [zO, zT, acs, reduceCtorEq, M, E, O, Z, Y, V, Mly.av]; (repeat refine an ?_); (try refine .inl ?_); apply k0; clear k0; simp only [zP, E])
 refine' aw (want := true) 5 rfl (m := 17) (by simp only [zP, M, E]; exact rfl) (by kernel_rfl) rfl rfl rfl rfl rfl (fun hg4 => ?a4) ?b4 ?c4
 case a4 =>
  have hq4 := hg4; (try simp only [zB, reduceCtorEq] at hg4); simp only [zE]
  iterate 4 (refine aL rfl fun _ k0 => ?_; simp only [zO, zT, acs, reduceCtorEq, M, E, O, Z, Y, V, Mly.av]; (repeat refine an ?_); (try refine .inl ?_); apply k0; clear k0; simp only [zP, E])
  refine aL rfl fun _ k0 => ?_
  refine ay (h := ak (pu m.nx n.nx)) rfl rfl (by first | exact rfl | (simp only [ev, zP, M, E]; exact rfl)) (by simp only [zV, acs, reduceCtorEq, M, E, O, Z, Y, V, Mly.av]) ?_
  apply k0; clear k0; simp only [zP, E]
  (refine aa rfl fun _ k0 => ?_; simp only [zO, zT, acs, reduceCtorEq, M, E, O, Z, Y, V, Mly.av]; (repeat refine an ?_); (try refine .inl ?_); apply k0; clear k0; simp only [zP, E])
  refine ad ?_
  refine ⟨by simp only [zP, M, E]; exact rfl, rfl, ?_, rfl⟩; (repeat refine ax rfl ?_); exact aM (by exact rfl) hq4
 case b4 => exact bj
 simp only [aJ, aC]
 (refine aa rfl fun _ k0 => ?_; simp only [zO, zT, acs, reduceCtorEq, M, E, O, Z, Y, V, Mly.av]; (repeat refine an ?_); (try refine .inl ?_); apply k0; clear k0; simp only [zP, E])
 refine' aw (want := true) 5 rfl (m := 24) (by simp only [zP, M, E]; exact rfl) (by kernel_rfl) rfl rfl rfl rfl rfl (fun hg5 => ?a5) ?b5 ?c5
 case a5 =>
  have hq5 := hg5; (try simp only [zB, reduceCtorEq] at hg5); simp only [zE]
  iterate 4 (refine aL rfl fun _ k0 => ?_; simp only [zO, zT, acs, reduceCtorEq, M, E, O, Z, Y, V, Mly.av]; (repeat refine an ?_); (try refine .inl ?_); apply k0; clear k0; simp only [zP, E])
  refine aL rfl fun _ k0 => ?_
  refine ay (h := ak (pu m.ot n.ot)) rfl rfl (by first | exact rfl | (simp only [ev, zP, M, E]; exact rfl)) (by simp only [zV, acs, reduceCtorEq, M, E, O, Z, Y, V, Mly.av]) ?_
  apply k0; clear k0; simp only [zP, E]
  (refine aa rfl fun _ k0 => ?_; simp only [zO, zT, acs, reduceCtorEq, M, E, O, Z, Y, V, Mly.av]; (repeat refine an ?_); (try refine .inl ?_); apply k0; clear k0; simp only [zP, E])
  refine ad ?_
  refine ⟨by simp only [zP, M, E]; exact rfl, rfl, ?_, rfl⟩; (repeat refine ax rfl ?_); exact aM (by exact rfl) hq5
 case b5 => exact bj
 simp only [aJ, aC]
 (refine aa rfl fun _ k0 => ?_; simp only [zO, zT, acs, reduceCtorEq, M, E, O, Z, Y, V, Mly.av]; (repeat refine an ?_); (try refine .inl ?_); apply k0; clear k0; simp only [zP, E])
 refine ad ?_
 apply k2; clear k2; refine kp [0, 1, 2, 3, 4] ?_
 refine ar ?_
 refine ⟨nr, _, rfl, ?_⟩; simp only [zF, zP, M, E, Mly.av]
 refine VLE.of_eq ?_
 rfl
theorem px (x y : Mdl) : bE Tryd.prog 12 [x.av, y.av] (.one (.bool (decide (x.nm = y.nm) && decide (x.ins = y.ins) && decide (x.outs = y.outs) && iK x.m y.m))) := by
 refine aO Tryd.func12 rfl (by kernel_rfl) (Nat.le_of_ble_eq_true rfl) rfl fun C hP hN hB => ?_
 replace hN : C.N = 31 := hN
 simp only [aS, E]
 refine ab fun _ k1 => ?_
 refine ae hP hN rfl ?_
 iterate 3 (refine aa rfl fun _ k0 => ?_; simp only [zO, zT, acs, reduceCtorEq, M, E, O, Z, Y, V, Mdl.av, Mdl.cs]; (repeat refine an ?_); (try refine .inl ?_); apply k0; clear k0; simp only [zP, E])
 refine ad ?_
 apply k1; clear k1; refine kp [0, 1, 2, 3, 4] ?_
 refine ab fun _ k2 => ?_
 refine ae hP hN rfl ?_
 iterate 6 (refine aa rfl fun _ k0 => ?_; simp only [zO, zT, acs, reduceCtorEq, M, E, O, Z, Y, V, Mdl.av, Mdl.cs]; (repeat refine an ?_); (try refine .inl ?_); apply k0; clear k0; simp only [zP, E])
 refine' aw (want := true) 5 rfl (m := 10) (by simp only [zP, M, E]; exact rfl) (by kernel_rfl) rfl rfl rfl rfl rfl (fun hg3 => ?a3) ?b3 ?c3
 case a3 =>
  have hq3 := hg3; (try simp only [zB, reduceCtorEq] at hg3); simp only [zE]
  iterate 4 (refine aL rfl fun _ k0 => ?_; simp only [zO, zT, acs, reduceCtorEq, M, E, O, Z, Y, V, Mdl.av, Mdl.cs]; (repeat refine an ?_); (try refine .inl ?_); apply k0; clear k0; simp only [zP, E])
  refine aL rfl fun _ k0 => ?_
  refine ay (h := ak (nc x.ins y.ins)) rfl rfl (by first | exact rfl | (simp only [ev, zP, M, E]; exact rfl)) (by simp only [zV, acs, reduceCtorEq, M, E, O, Z, Y, V, Mdl.av, Mdl.cs]) ?_
  apply k0; clear k0; simp only [zP, E]
  (refine aa rfl fun _ k0 => ?_; simp only [zO, zT, acs, reduceCtorEq, M, E, O, Z, Y, V, Mdl.av, Mdl.cs]; (repeat refine an ?_); (try refine .inl ?_); apply k0; clear k0; simp only [zP, E])
  refine ad ?_
  refine ⟨by simp only [zP, M, E]; exact rfl, rfl, ?_, rfl⟩; (repeat refine ax rfl ?_); exact aM (by exact rfl) hq3
 case b3 => exact bj
 simp only [aJ, aC]
 (refine aa rfl fun _ k0 => ?_; simp only [zO, zT, acs, reduceCtorEq, M, E, O, Z, Y, V, Mdl.av, Mdl.cs]; (repeat refine an ?_); (try refine .inl ?_); apply k0; clear k0; simp only [zP, E])
 refine' aw (want := true) 5 rfl (m := 17) (by simp only [zP, M, E]; exact rfl) (by kernel_rfl) rfl rfl rfl rfl rfl (fun hg4 => ?a4) ?b4 ?c4
 case a4 =>
  have hq4 := hg4; (try simp only [zB, reduceCtorEq] at hg4); simp only [zE]
  iterate 4 (refine aL rfl fun _ k0 => ?_; simp only [zO, zT, acs, reduceCtorEq, M, E, O, Z, Y, V, Mdl.av, Mdl.cs]; (repeat refine an ?_); (try refine .inl ?_); apply k0; clear k0; simp only [zP, E])
  refine aL rfl fun _ k0 => ?_
  refine ay (h := ak (nc x.outs y.outs)) rfl rfl (by first | exact rfl | (simp only [ev, zP, M, E]; exact rfl)) (by simp only [zV, acs, reduceCtorEq, M, E, O, Z, Y, V, Mdl.av, Mdl.cs]) ?_
  apply k0; clear k0; simp only [zP, E]
  (refine aa rfl fun _ k0 => ?_; simp only [zO, zT, acs, reduceCtorEq, M, E, O, Z, Y, V, Mdl.av, Mdl.cs]; (repeat refine an ?_); (try refine .inl ?_); apply k0; clear k0; simp only [zP, E])
  refine ad ?_
  refine ⟨by simp only [zP, M, E]; exact rfl, rfl, ?_, rfl⟩; (repeat refine ax rfl ?_); exact aM (by exact rfl) hq4
 case b4 => exact bj
 simp only [aJ, aC]
 (refine aa rfl fun _ k0 => ?_; simp only [zO, zT, acs, reduceCtorEq, M, E, O, Z, Y, V, Mdl.av, Mdl.cs]; (repeat refine an ?_); (try refine .inl ?_); apply k0; clear k0; simp only [zP, E])
 refine' aw (want := true) 5 rfl (m := 24) (by simp only [zP, M, E]; exact rfl) (by kernel_rfl) rfl rfl rfl rfl rfl (fun hg5 => ?a5) ?b5 ?c5
 case a5 =>
  have hq5 := hg5; (try simp only [zB, reduceCtorEq] at hg5); simp only [zE]
  iterate 4 (refine aL rfl fun _ k0 => ?_; simp only [zO, zT, acs, reduceCtorEq, M, E, O, Z, Y, V, Mdl.av, Mdl.cs]; (repeat refine an ?_); (try refine .inl ?_); apply k0; clear k0; simp only [zP, E])
  refine aL rfl fun _ k0 => ?_
  refine ay (h := ak (sw x.m y.m)) rfl rfl (by first | exact rfl | (simp only [ev, zP, M, E]; exact rfl)) (by simp only [zV, acs, reduceCtorEq, M, E, O, Z, Y, V, Mdl.av, Mdl.cs]) ?_
  apply k0; clear k0; simp only [zP, E]
  (refine aa rfl fun _ k0 => ?_; simp only [zO, zT, acs, reduceCtorEq, M, E, O, Z, Y, V, Mdl.av, Mdl.cs]; (repeat refine an ?_); (try refine .inl ?_); apply k0; clear k0; simp only [zP, E])
  refine ad ?_
  refine ⟨by simp only [zP, M, E]; exact rfl, rfl, ?_, rfl⟩; (repeat refine ax rfl ?_); exact aM (by exact rfl) hq5
 case b5 => exact bj
 simp only [aJ, aC]
 (refine aa rfl fun _ k0 => ?_; simp only [zO, zT, acs, reduceCtorEq, M, E, O, Z, Y, V, Mdl.av, Mdl.cs]; (repeat refine an ?_); (try refine .inl ?_); apply k0; clear k0; simp only [zP, E])
 refine ad ?_
 apply k2; clear k2; refine kp [0, 1, 2, 3, 4] ?_
 refine ar ?_
 refine ⟨nr, _, rfl, ?_⟩; simp only [zF, zP, M, E, Mdl.av, Mdl.cs]
 refine VLE.of_eq ?_
 rfl
theorem oO (x y : Mdl) : bE Tryd.prog 12 [x.av, y.av] (.one (.bool (nk x y))) := px x y
set_option maxHeartbeats 2000000 in
theorem kL  : bE Tryd.prog 8 [] (.one (.bool true)) := by
 refine aO Tryd.func8 rfl (by kernel_rfl) (Nat.le_of_ble_eq_true rfl) rfl fun C hP hN hB => ?_
 replace hN : C.N = 99 := hN
 simp only [aS, E]
 refine ab fun _ k1 => ?_
 refine ae hP hN rfl ?_
 (refine aa rfl fun _ k0 => ?_; simp only [zO, zT, acs, reduceCtorEq, M, E, O, Z, Y, V, Mdl.av, Mdl.cs]; (repeat refine an ?_); (try refine .inl ?_); apply k0; clear k0; simp only [zP, E])
 refine ad ?_
 apply k1; clear k1; refine kp [0] ?_
 refine ab fun _ k2 => ?_
 refine ae hP hN rfl ?_
 refine aa rfl fun _ k0 => ?_
 refine ay (h := ak mj) rfl rfl (by first | exact rfl | (simp only [ev, zP, M, E]; exact rfl)) (by simp only [zV, acs, reduceCtorEq, M, E, O, Z, Y, V, Mdl.av, Mdl.cs]) ?_
 apply k0; clear k0; simp only [zP, E]
 refine aa rfl fun _ k0 => ?_
 refine ay (h := ak sJ) rfl rfl (by first | exact rfl | (simp only [ev, zP, M, E]; exact rfl)) (by simp only [zV, acs, reduceCtorEq, M, E, O, Z, Y, V, Mdl.av, Mdl.cs]) ?_
 apply k0; clear k0; simp only [zP, E]
 iterate 5 (refine aa rfl fun _ k0 => ?_; simp only [zO, zT, acs, reduceCtorEq, M, E, O, Z, Y, V, Mdl.av, Mdl.cs]; (repeat refine an ?_); (try refine .inl ?_); apply k0; clear k0; simp only [zP, E])
 refine ad ?_
 apply k2; clear k2; refine kp [0, 1, 2] ?_
 refine ab fun _ k3 => ?_
 refine ae hP hN rfl ?_
 refine aa rfl fun _ k0 => ?_
 refine ay (h := ak uD) rfl rfl (by first | exact rfl | (simp only [ev, zP, M, E]; exact rfl)) (by simp only [zV, acs, reduceCtorEq, M, E, O, Z, Y, V, Mdl.av, Mdl.cs, List.append_eq, aj, am, gtx, gtA, gtB, gtC]) ?_
 apply k0; clear k0; simp only [zP, E]
 iterate 8 (refine aa rfl fun _ k0 => ?_; simp only [zO, zT, acs, reduceCtorEq, M, E, O, Z, Y, V, Mdl.av, Mdl.cs, List.append_eq, aj, am, gtx, gtA, gtB, gtC]; (repeat refine an ?_); (try refine .inl ?_); apply k0; clear k0; simp only [zP, E])
 refine ad ?_
 apply k3; clear k3; refine kp [0, 1, 2, 3, 4, 5] ?_
 refine ab fun _ k4 => ?_
 refine ae hP hN rfl ?_
 refine aa rfl fun _ k0 => ?_
 refine ay (h := ak uA) rfl rfl (by first | exact rfl | (simp only [ev, zP, M, E]; exact rfl)) (by simp only [zV, acs, reduceCtorEq, M, E, O, Z, Y, V, Mdl.av, Mdl.cs, List.append_eq, aj, am, gtx, gtA, gtB, gtC]) ?_
 apply k0; clear k0; simp only [zP, E]
 iterate 8 (refine aa rfl fun _ k0 => ?_; simp only [zO, zT, acs, reduceCtorEq, M, E, O, Z, Y, V, Mdl.av, Mdl.cs, List.append_eq, aj, am, gtx, gtA, gtB, gtC]; (repeat refine an ?_); (try refine .inl ?_); apply k0; clear k0; simp only [zP, E])
 refine ad ?_
 apply k4; clear k4; refine kp [0, 1, 2, 3, 4, 5, 7, 8] ?_
 refine ab fun _ k5 => ?_
 refine ae hP hN rfl ?_
 refine aa rfl fun _ k0 => ?_
 refine ay (h := ak uK) rfl rfl (by first | exact rfl | (simp only [ev, zP, M, E]; exact rfl)) (by simp only [zV, acs, reduceCtorEq, M, E, O, Z, Y, V, Mdl.av, Mdl.cs, List.append_eq, aj, am, gtx, gtA, gtB, gtC]) ?_
 apply k0; clear k0; simp only [zP, E]
 iterate 8 (refine aa rfl fun _ k0 => ?_; simp only [zO, zT, acs, reduceCtorEq, M, E, O, Z, Y, V, Mdl.av, Mdl.cs, List.append_eq, aj, am, gtx, gtA, gtB, gtC]; (repeat refine an ?_); (try refine .inl ?_); apply k0; clear k0; simp only [zP, E])
 refine ad ?_
 apply k5; clear k5; refine kp [0, 1, 2, 3, 4, 5, 7, 8, 10, 11] ?_
 refine ab fun _ k6 => ?_
 refine ae hP hN rfl ?_
 refine aa rfl fun _ k0 => ?_
 refine ay (h := ak uM) rfl rfl (by first | exact rfl | (simp only [ev, zP, M, E]; exact rfl)) (by simp only [zV, acs, reduceCtorEq, M, E, O, Z, Y, V, Mdl.av, Mdl.cs, List.append_eq, aj, am, gtx, gtA, gtB, gtC]) ?_
 apply k0; clear k0; simp only [zP, E]
 iterate 8 (refine aa rfl fun _ k0 => ?_; simp only [zO, zT, acs, reduceCtorEq, M, E, O, Z, Y, V, Mdl.av, Mdl.cs, List.append_eq, aj, am, gtx, gtA, gtB, gtC]; (repeat refine an ?_); (try refine .inl ?_); apply k0; clear k0; simp only [zP, E])
 refine ad ?_
 apply k6; clear k6; refine kp [0, 1, 2, 3, 4, 5, 7, 8, 10, 11, 13, 14] ?_
 refine ab fun _ k7 => ?_
 refine ae hP hN rfl ?_
 refine aa rfl fun _ k0 => ?_
 refine ay (h := ak uF) rfl rfl (by first | exact rfl | (simp only [ev, zP, M, E]; exact rfl)) (by simp only [zV, acs, reduceCtorEq, M, E, O, Z, Y, V, Mdl.av, Mdl.cs]) ?_
 apply k0; clear k0; simp only [zP, E]
 iterate 8 (refine aa rfl fun _ k0 => ?_; simp only [zO, zT, acs, reduceCtorEq, M, E, O, Z, Y, V, Mdl.av, Mdl.cs]; (repeat refine an ?_); (try refine .inl ?_); apply k0; clear k0; simp only [zP, E])
 refine ad ?_
 apply k7; clear k7; refine kp [0, 1, 2, 3, 4, 5, 7, 8, 10, 11, 13, 14, 16, 17] ?_
 refine ab fun _ k8 => ?_
 refine cw hP hN Tryd.mixed rfl ?_
 iterate 3 (refine aa rfl fun _ k0 => ?_; simp only [zO, zT, acs, reduceCtorEq, M, E, O, Z, Y, V, Mdl.av, Mdl.cs, List.append_eq, aj, am, gtx, gtA, gtB, gtC]; (repeat refine an ?_); (try refine .inl ?_); apply k0; clear k0; simp only [zP, E])
 refine' aw (want := true) 2 rfl (m := 50) (by simp only [zP, M, E]; exact rfl) (by kernel_rfl) rfl rfl rfl rfl rfl (fun hg9 => ?a9) ?b9 ?c9
 case a9 =>
  have hq9 := hg9; (try simp only [zB, reduceCtorEq] at hg9); simp only [zE]
  iterate 2 (refine aL rfl fun _ k0 => ?_; simp only [zO, zT, acs, reduceCtorEq, M, E, O, Z, Y, V, Mdl.av, Mdl.cs, List.append_eq, aj, am, gtx, gtA, gtB, gtC]; (repeat refine an ?_); (try refine .inl ?_); apply k0; clear k0; simp only [zP, E])
  (refine aa rfl fun _ k0 => ?_; simp only [zO, zT, acs, reduceCtorEq, M, E, O, Z, Y, V, Mdl.av, Mdl.cs, List.append_eq, aj, am, gtx, gtA, gtB, gtC]; (repeat refine an ?_); (try refine .inl ?_); apply k0; clear k0; simp only [zP, E])
  refine ad ?_
  refine ⟨by simp only [zP, M, E]; exact rfl, rfl, ?_, rfl⟩; (repeat refine ax rfl ?_); exact aM (by exact rfl) hq9
 case b9 => exact bj
 simp only [aJ, aC]
 (refine aa rfl fun _ k0 => ?_; simp only [zO, zT, acs, reduceCtorEq, M, E, O, Z, Y, V, Mdl.av, Mdl.cs, List.append_eq, aj, am, gtx, gtA, gtB, gtC]; (repeat refine an ?_); (try refine .inl ?_); apply k0; clear k0; simp only [zP, E])
 refine' aw (want := true) 3 rfl (m := 54) (by simp only [zP, M, E]; exact rfl) (by kernel_rfl) rfl rfl rfl rfl rfl (fun hg10 => ?a10) ?b10 ?c10
 case a10 =>
  have hq10 := hg10; (try simp only [zB, reduceCtorEq] at hg10); simp only [zE]
  (refine aL rfl fun _ k0 => ?_; simp only [zO, zT, acs, reduceCtorEq, M, E, O, Z, Y, V, Mdl.av, Mdl.cs, List.append_eq, aj, am, gtx, gtA, gtB, gtC]; (repeat refine an ?_); (try refine .inl ?_); apply k0; clear k0; simp only [zP, E])
  refine aL rfl fun _ k0 => ?_
  refine ay (h := ak mj) rfl rfl (by first | exact rfl | (simp only [ev, zP, M, E]; exact rfl)) (by simp only [zV, acs, reduceCtorEq, M, E, O, Z, Y, V, Mdl.av, Mdl.cs, List.append_eq, aj, am, gtx, gtA, gtB, gtC]) ?_
  apply k0; clear k0; simp only [zP, E]
  refine aL rfl fun _ k0 => ?_
  refine ay (h := ak (oO dT dT)) rfl rfl (by first | exact rfl | (simp only [ev, zP, M, E]; exact rfl)) (by simp only [zV, acs, reduceCtorEq, M, E, O, Z, Y, V, Mdl.av, Mdl.cs, List.append_eq, aj, am, gtx, gtA, gtB, gtC]) ?_
  apply k0; clear k0; simp only [zP, E]
  (refine aa rfl fun _ k0 => ?_; simp only [zO, zT, acs, reduceCtorEq, M, E, O, Z, Y, V, Mdl.av, Mdl.cs, List.append_eq, aj, am, gtx, gtA, gtB, gtC]; (repeat refine an ?_); (try refine .inl ?_); apply k0; clear k0; simp only [zP, E])
  refine ad ?_
  refine ⟨by simp only [zP, M, E]; exact rfl, rfl, ?_, rfl⟩; (repeat refine ax rfl ?_); exact aM (by exact rfl) hq10
 case b10 => exact bj
 simp only [aJ, aC]
 (refine aa rfl fun _ k0 => ?_; simp only [zO, zT, acs, reduceCtorEq, M, E, O, Z, Y, V, Mdl.av, Mdl.cs, List.append_eq, aj, am, gtx, gtA, gtB, gtC]; (repeat refine an ?_); (try refine .inl ?_); apply k0; clear k0; simp only [zP, E])
 refine' aw (want := true) 2 rfl (m := 59) (by simp only [zP, M, E]; exact rfl) (by kernel_rfl) rfl rfl rfl rfl rfl (fun hg11 => ?a11) ?b11 ?c11
 case a11 =>
  have hq11 := hg11; (try simp only [zB, reduceCtorEq] at hg11); simp only [zE]
  iterate 2 (refine aL rfl fun _ k0 => ?_; simp only [zO, zT, acs, reduceCtorEq, M, E, O, Z, Y, V, Mdl.av, Mdl.cs, List.append_eq, aj, am, gtx, gtA, gtB, gtC]; (repeat refine an ?_); (try refine .inl ?_); apply k0; clear k0; simp only [zP, E])
  (refine aa rfl fun _ k0 => ?_; simp only [zO, zT, acs, reduceCtorEq, M, E, O, Z, Y, V, Mdl.av, Mdl.cs, List.append_eq, aj, am, gtx, gtA, gtB, gtC]; (repeat refine an ?_); (try refine .inl ?_); apply k0; clear k0; simp only [zP, E])
  refine ad ?_
  refine ⟨by simp only [zP, M, E]; exact rfl, rfl, ?_, rfl⟩; (repeat refine ax rfl ?_); exact aM (by exact rfl) hq11
 case b11 => exact bj
 simp only [aJ, aC]
 (refine aa rfl fun _ k0 => ?_; simp only [zO, zT, acs, reduceCtorEq, M, E, O, Z, Y, V, Mdl.av, Mdl.cs, List.append_eq, aj, am, gtx, gtA, gtB, gtC]; (repeat refine an ?_); (try refine .inl ?_); apply k0; clear k0; simp only [zP, E])
 refine' aw (want := true) 2 rfl (m := 63) (by simp only [zP, M, E]; exact rfl) (by kernel_rfl) rfl rfl rfl rfl rfl (fun hg12 => ?a12) ?b12 ?c12
 case a12 =>
  have hq12 := hg12; (try simp only [zB, reduceCtorEq] at hg12); simp only [zE]
  iterate 2 (refine aL rfl fun _ k0 => ?_; simp only [zO, zT, acs, reduceCtorEq, M, E, O, Z, Y, V, Mdl.av, Mdl.cs, List.append_eq, aj, am, gtx, gtA, gtB, gtC]; (repeat refine an ?_); (try refine .inl ?_); apply k0; clear k0; simp only [zP, E])
  (refine aa rfl fun _ k0 => ?_; simp only [zO, zT, acs, reduceCtorEq, M, E, O, Z, Y, V, Mdl.av, Mdl.cs, List.append_eq, aj, am, gtx, gtA, gtB, gtC]; (repeat refine an ?_); (try refine .inl ?_); apply k0; clear k0; simp only [zP, E])
  refine ad ?_
  refine ⟨by simp only [zP, M, E]; exact rfl, rfl, ?_, rfl⟩; (repeat refine ax rfl ?_); exact aM (by exact rfl) hq12
 case b12 => exact bj
 simp only [aJ, aC]
 (refine aa rfl fun _ k0 => ?_; simp only [zO, zT, acs, reduceCtorEq, M, E, O, Z, Y, V, Mdl.av, Mdl.cs, List.append_eq, aj, am, gtx, gtA, gtB, gtC]; (repeat refine an ?_); (try refine .inl ?_); apply k0; clear k0; simp only [zP, E])
 refine' aw (want := true) 2 rfl (m := 67) (by simp only [zP, M, E]; exact rfl) (by kernel_rfl) rfl rfl rfl rfl rfl (fun hg13 => ?a13) ?b13 ?c13
 case a13 =>
  have hq13 := hg13; (try simp only [zB, reduceCtorEq] at hg13); simp only [zE]
  iterate 2 (refine aL rfl fun _ k0 => ?_; simp only [zO, zT, acs, reduceCtorEq, M, E, O, Z, Y, V, Mdl.av, Mdl.cs, List.append_eq, aj, am, gtx, gtA, gtB, gtC]; (repeat refine an ?_); (try refine .inl ?_); apply k0; clear k0; simp only [zP, E])
  (refine aa rfl fun _ k0 => ?_; simp only [zO, zT, acs, reduceCtorEq, M, E, O, Z, Y, V, Mdl.av, Mdl.cs, List.append_eq, aj, am, gtx, gtA, gtB, gtC]; (repeat refine an ?_); (try refine .inl ?_); apply k0; clear k0; simp only [zP, E])
  refine ad ?_
  refine ⟨by simp only [zP, M, E]; exact rfl, rfl, ?_, rfl⟩; (repeat refine ax rfl ?_); exact aM (by exact rfl) hq13
 case b13 => exact bj
 simp only [aJ, aC]
 (refine aa rfl fun _ k0 => ?_; simp only [zO, zT, acs, reduceCtorEq, M, E, O, Z, Y, V, Mdl.av, Mdl.cs, List.append_eq, aj, am, gtx, gtA, gtB, gtC]; (repeat refine an ?_); (try refine .inl ?_); apply k0; clear k0; simp only [zP, E])
 refine' aw (want := true) 2 rfl (m := 71) (by simp only [zP, M, E]; exact rfl) (by kernel_rfl) rfl rfl rfl rfl rfl (fun hg14 => ?a14) ?b14 ?c14
 case a14 =>
  have hq14 := hg14; (try simp only [zB, reduceCtorEq] at hg14); simp only [zE]
  iterate 2 (refine aL rfl fun _ k0 => ?_; simp only [zO, zT, acs, reduceCtorEq, M, E, O, Z, Y, V, Mdl.av, Mdl.cs, List.append_eq, aj, am, gtx, gtA, gtB, gtC]; (repeat refine an ?_); (try refine .inl ?_); apply k0; clear k0; simp only [zP, E])
  (refine aa rfl fun _ k0 => ?_; simp only [zO, zT, acs, reduceCtorEq, M, E, O, Z, Y, V, Mdl.av, Mdl.cs, List.append_eq, aj, am, gtx, gtA, gtB, gtC]; (repeat refine an ?_); (try refine .inl ?_); apply k0; clear k0; simp only [zP, E])
  refine ad ?_
  refine ⟨by simp only [zP, M, E]; exact rfl, rfl, ?_, rfl⟩; (repeat refine ax rfl ?_); exact aM (by exact rfl) hq14
 case b14 => exact bj
 simp only [aJ, aC]
 (refine aa rfl fun _ k0 => ?_; simp only [zO, zT, acs, reduceCtorEq, M, E, O, Z, Y, V, Mdl.av, Mdl.cs, List.append_eq, aj, am, gtx, gtA, gtB, gtC]; (repeat refine an ?_); (try refine .inl ?_); apply k0; clear k0; simp only [zP, E])
 refine' aw (want := true) 2 rfl (m := 75) (by simp only [zP, M, E]; exact rfl) (by kernel_rfl) rfl rfl rfl rfl rfl (fun hg15 => ?a15) ?b15 ?c15
 case a15 =>
  have hq15 := hg15; (try simp only [zB, reduceCtorEq] at hg15); simp only [zE]
  iterate 2 (refine aL rfl fun _ k0 => ?_; simp only [zO, zT, acs, reduceCtorEq, M, E, O, Z, Y, V, Mdl.av, Mdl.cs, List.append_eq, aj, am, gtx, gtA, gtB, gtC]; (repeat refine an ?_); (try refine .inl ?_); apply k0; clear k0; simp only [zP, E])
  (refine aa rfl fun _ k0 => ?_; simp only [zO, zT, acs, reduceCtorEq, M, E, O, Z, Y, V, Mdl.av, Mdl.cs, List.append_eq, aj, am, gtx, gtA, gtB, gtC]; (repeat refine an ?_); (try refine .inl ?_); apply k0; clear k0; simp only [zP, E])
  refine ad ?_
  refine ⟨by simp only [zP, M, E]; exact rfl, rfl, ?_, rfl⟩; (repeat refine ax rfl ?_); exact aM (by exact rfl) hq15
 case b15 => exact bj
 simp only [aJ, aC]
 (refine aa rfl fun _ k0 => ?_; simp only [zO, zT, acs, reduceCtorEq, M, E, O, Z, Y, V, Mdl.av, Mdl.cs, List.append_eq, aj, am, gtx, gtA, gtB, gtC]; (repeat refine an ?_); (try refine .inl ?_); apply k0; clear k0; simp only [zP, E])
 refine' aw (want := true) 2 rfl (m := 79) (by simp only [zP, M, E]; exact rfl) (by kernel_rfl) rfl rfl rfl rfl rfl (fun hg16 => ?a16) ?b16 ?c16
 case a16 =>
  have hq16 := hg16; (try simp only [zB, reduceCtorEq] at hg16); simp only [zE]
  iterate 2 (refine aL rfl fun _ k0 => ?_; simp only [zO, zT, acs, reduceCtorEq, M, E, O, Z, Y, V, Mdl.av, Mdl.cs, List.append_eq, aj, am, gtx, gtA, gtB, gtC]; (repeat refine an ?_); (try refine .inl ?_); apply k0; clear k0; simp only [zP, E])
  (refine aa rfl fun _ k0 => ?_; simp only [zO, zT, acs, reduceCtorEq, M, E, O, Z, Y, V, Mdl.av, Mdl.cs, List.append_eq, aj, am, gtx, gtA, gtB, gtC]; (repeat refine an ?_); (try refine .inl ?_); apply k0; clear k0; simp only [zP, E])
  refine ad ?_
  refine ⟨by simp only [zP, M, E]; exact rfl, rfl, ?_, rfl⟩; (repeat refine ax rfl ?_); exact aM (by exact rfl) hq16
 case b16 => exact bj
 simp only [aJ, aC]
 (refine aa rfl fun _ k0 => ?_; simp only [zO, zT, acs, reduceCtorEq, M, E, O, Z, Y, V, Mdl.av, Mdl.cs, List.append_eq, aj, am, gtx, gtA, gtB, gtC]; (repeat refine an ?_); (try refine .inl ?_); apply k0; clear k0; simp only [zP, E])
 refine' aw (want := true) 2 rfl (m := 83) (by simp only [zP, M, E]; exact rfl) (by kernel_rfl) rfl rfl rfl rfl rfl (fun hg17 => ?a17) ?b17 ?c17
 case a17 =>
  have hq17 := hg17; (try simp only [zB, reduceCtorEq] at hg17); simp only [zE]
  iterate 2 (refine aL rfl fun _ k0 => ?_; simp only [zO, zT, acs, reduceCtorEq, M, E, O, Z, Y, V, Mdl.av, Mdl.cs, List.append_eq, aj, am, gtx, gtA, gtB, gtC]; (repeat refine an ?_); (try refine .inl ?_); apply k0; clear k0; simp only [zP, E])
  (refine aa rfl fun _ k0 => ?_; simp only [zO, zT, acs, reduceCtorEq, M, E, O, Z, Y, V, Mdl.av, Mdl.cs, List.append_eq, aj, am, gtx, gtA, gtB, gtC]; (repeat refine an ?_); (try refine .inl ?_); apply k0; clear k0; simp only [zP, E])
  refine ad ?_
  refine ⟨by simp only [zP, M, E]; exact rfl, rfl, ?_, rfl⟩; (repeat refine ax rfl ?_); exact aM (by exact rfl) hq17
 case b17 => exact bj
 simp only [aJ, aC]
 (refine aa rfl fun _ k0 => ?_; simp only [zO, zT, acs, reduceCtorEq, M, E, O, Z, Y, V, Mdl.av, Mdl.cs, List.append_eq, aj, am, gtx, gtA, gtB, gtC]; (repeat refine an ?_); (try refine .inl ?_); apply k0; clear k0; simp only [zP, E])
 refine' aw (want := true) 2 rfl (m := 87) (by simp only [zP, M, E]; exact rfl) (by kernel_rfl) rfl rfl rfl rfl rfl (fun hg18 => ?a18) ?b18 ?c18
 case a18 =>
  have hq18 := hg18; (try simp only [zB, reduceCtorEq] at hg18); simp only [zE]
  iterate 2 (refine aL rfl fun _ k0 => ?_; simp only [zO, zT, acs, reduceCtorEq, M, E, O, Z, Y, V, Mdl.av, Mdl.cs, List.append_eq, aj, am, gtx, gtA, gtB, gtC]; (repeat refine an ?_); (try refine .inl ?_); apply k0; clear k0; simp only [zP, E])
  (refine aa rfl fun _ k0 => ?_; simp only [zO, zT, acs, reduceCtorEq, M, E, O, Z, Y, V, Mdl.av, Mdl.cs, List.append_eq, aj, am, gtx, gtA, gtB, gtC]; (repeat refine an ?_); (try refine .inl ?_); apply k0; clear k0; simp only [zP, E])
  refine ad ?_
  refine ⟨by simp only [zP, M, E]; exact rfl, rfl, ?_, rfl⟩; (repeat refine ax rfl ?_); exact aM (by exact rfl) hq18
 case b18 => exact bj
 simp only [aJ, aC]
 (refine aa rfl fun _ k0 => ?_; simp only [zO, zT, acs, reduceCtorEq, M, E, O, Z, Y, V, Mdl.av, Mdl.cs, List.append_eq, aj, am, gtx, gtA, gtB, gtC]; (repeat refine an ?_); (try refine .inl ?_); apply k0; clear k0; simp only [zP, E])
 refine' aw (want := true) 2 rfl (m := 91) (by simp only [zP, M, E]; exact rfl) (by kernel_rfl) rfl rfl rfl rfl rfl (fun hg19 => ?a19) ?b19 ?c19
 case a19 =>
  have hq19 := hg19; (try simp only [zB, reduceCtorEq] at hg19); simp only [zE]
  iterate 2 (refine aL rfl fun _ k0 => ?_; simp only [zO, zT, acs, reduceCtorEq, M, E, O, Z, Y, V, Mdl.av, Mdl.cs, List.append_eq, aj, am, gtx, gtA, gtB, gtC]; (repeat refine an ?_); (try refine .inl ?_); apply k0; clear k0; simp only [zP, E])
  (refine aa rfl fun _ k0 => ?_; simp only [zO, zT, acs, reduceCtorEq, M, E, O, Z, Y, V, Mdl.av, Mdl.cs, List.append_eq, aj, am, gtx, gtA, gtB, gtC]; (repeat refine an ?_); (try refine .inl ?_); apply k0; clear k0; simp only [zP, E])
  refine ad ?_
  refine ⟨by simp only [zP, M, E]; exact rfl, rfl, ?_, rfl⟩; (repeat refine ax rfl ?_); exact aM (by exact rfl) hq19
 case b19 => exact bj
 simp only [aJ, aC]
 (refine aa rfl fun _ k0 => ?_; simp only [zO, zT, acs, reduceCtorEq, M, E, O, Z, Y, V, Mdl.av, Mdl.cs, List.append_eq, aj, am, gtx, gtA, gtB, gtC]; (repeat refine an ?_); (try refine .inl ?_); apply k0; clear k0; simp only [zP, E])
 refine' aw (want := true) 2 rfl (m := 95) (by simp only [zP, M, E]; exact rfl) (by kernel_rfl) rfl rfl rfl rfl rfl (fun hg20 => ?a20) ?b20 ?c20
 case a20 =>
  have hq20 := hg20; (try simp only [zB, reduceCtorEq] at hg20); simp only [zE]
  iterate 2 (refine aL rfl fun _ k0 => ?_; simp only [zO, zT, acs, reduceCtorEq, M, E, O, Z, Y, V, Mdl.av, Mdl.cs, List.append_eq, aj, am, gtx, gtA, gtB, gtC]; (repeat refine an ?_); (try refine .inl ?_); apply k0; clear k0; simp only [zP, E])
  (refine aa rfl fun _ k0 => ?_; simp only [zO, zT, acs, reduceCtorEq, M, E, O, Z, Y, V, Mdl.av, Mdl.cs, List.append_eq, aj, am, gtx, gtA, gtB, gtC]; (repeat refine an ?_); (try refine .inl ?_); apply k0; clear k0; simp only [zP, E])
  refine ad ?_
  refine ⟨by simp only [zP, M, E]; exact rfl, rfl, ?_, rfl⟩; (repeat refine ax rfl ?_); exact aM (by exact rfl) hq20
 case b20 => exact bj
 simp only [aJ, aC]
 (refine aa rfl fun _ k0 => ?_; simp only [zO, zT, acs, reduceCtorEq, M, E, O, Z, Y, V, Mdl.av, Mdl.cs, List.append_eq, aj, am, gtx, gtA, gtB, gtC]; (repeat refine an ?_); (try refine .inl ?_); apply k0; clear k0; simp only [zP, E])
 refine ad ?_
 refine ⟨by kernel_rfl, ?_⟩
 apply k8; clear k8; refine kp [0, 1, 2, 3, 4, 5, 7, 8, 10, 11, 13, 14, 16, 17] ?_
 refine ar ?_
 refine ⟨nr, _, rfl, ?_⟩; simp only [zF, zP, M, E, Mdl.av, Mdl.cs]
 refine VLE.of_eq ?_
 rw [fY]; rfl
theorem lr (xs : List Bs) : bE Tryd.prog 14 [.agg [.list .str xs]] (.one (.bool (grB xs))) := by
 refine aO Tryd.func14 rfl (by kernel_rfl) (Nat.le_of_ble_eq_true rfl) rfl fun C hP hN hB => ?_
 replace hN : C.N = 26 := hN
 simp only [aS, E]
 refine ab fun _ k1 => ?_
 refine ae hP hN rfl ?_
 iterate 2 (refine aa rfl fun _ k0 => ?_; simp only [zO, zT, acs, reduceCtorEq, M, E, O, Z, Y, V]; (repeat refine an ?_); (try refine .inl ?_); apply k0; clear k0; simp only [zP, E])
 refine ad ?_
 apply k1; clear k1; refine kp [0, 1, 2] ?_
 refine ab fun _ k2 => ?_
 refine ab fun _ k3 => ?_
 refine ae hP hN rfl ?_
 (refine aa rfl fun _ k0 => ?_; simp only [zO, zT, acs, reduceCtorEq, M, E, O, Z, Y, V]; (repeat refine an ?_); (try refine .inl ?_); apply k0; clear k0; simp only [zP, E])
 refine ad ?_
 apply k3; clear k3; refine kp [0, 1, 2, 3] ?_
 refine az ?_
 refine bm (fun n4 s4 => ∃ (k : Nat), (k ≤ xs.length) ∧ (∀ q, q < k → (xs.getD q []).length ≤ 100) ∧ (k ≤ 71) ∧ n4 = xs.length - k ∧ s4 = { env := [(1, .one (.ptr 0 0 0 0)), (2, .one (.bool false)), (3, .one (.int .i64 (k : Int)))], L := [.vars 24 [.list .str xs]] }) ?_ ?_
 ·exact ⟨_, _, aE [1, 2, 3], 0, Nat.zero_le _, fun q hq => by omega, by omega, rfl, rfl⟩
 rintro n4 s4 ⟨k, hk, hq, hk7, rfl, rfl⟩
 refine ab fun _ k5 => ?_
 refine ab fun _ k6 => ?_
 refine ae hP hN rfl ?_
 iterate 6 (refine aa rfl fun _ k0 => ?_; simp only [zO, zT, acs, reduceCtorEq, M, E, O, Z, Y, V]; (repeat refine an ?_); (try refine .inl ?_); apply k0; clear k0; simp only [zP, E])
 refine' aw (want := true) 2 rfl (m := 9) (by simp only [zP, M, E]; exact rfl) (by kernel_rfl) rfl rfl rfl rfl rfl (fun hg7 => ?a7) ?b7 ?c7
 case a7 =>
  have hq7 := hg7; (try simp only [zB, reduceCtorEq] at hg7); simp only [zE]
  iterate 2 (refine aL rfl fun _ k0 => ?_; simp only [zO, zT, acs, reduceCtorEq, M, E, O, Z, Y, V]; (repeat refine an ?_); (try refine .inl ?_); apply k0; clear k0; simp only [zP, E])
  (refine aa rfl fun _ k0 => ?_; simp only [zO, zT, acs, reduceCtorEq, M, E, O, Z, Y, V]; (repeat refine an ?_); (try refine .inl ?_); apply k0; clear k0; simp only [zP, E])
  refine ad ?_
  refine ⟨by simp only [zP, M, E]; exact rfl, rfl, ?_, rfl⟩; (repeat refine ax rfl ?_); exact aM (by exact rfl) hq7
 case b7 => exact bj
 simp only [aJ, aC]
 refine ad ?_
 apply k6; clear k6; refine kp [1, 2, 3, 12] ?_
 refine cd (fun hc8 => ?_) (fun hc8 => ?_)
 ·(try simp only [zB, reduceCtorEq] at hc8)
  refine au ?_
  apply k5; clear k5; refine kp [1, 2, 3, 12] ?_
  refine ab fun _ k9 => ?_
  refine az ?_
  refine ab fun _ k10 => ?_
  refine ae hP hN rfl ?_
  iterate 7 (refine aa rfl fun _ k0 => ?_; simp only [zO, zT, acs, reduceCtorEq, M, E, O, Z, Y, V]; (repeat refine an ?_); (try refine .inl ?_); apply k0; clear k0; simp only [zP, E])
  refine ad ?_
  apply k10; clear k10; refine kp [1, 2, 3, 12, 21] ?_
  refine cd (fun hc11 => ?_) (fun hc11 => ?_)
  ·(try simp only [zB, reduceCtorEq] at hc11)
   refine ab fun _ k12 => ?_
   refine ae hP hN rfl ?_
   (refine aa rfl fun _ k0 => ?_; simp only [zO, zT, acs, reduceCtorEq, M, E, O, Z, Y, V]; (repeat refine an ?_); (try refine .inl ?_); apply k0; clear k0; simp only [zP, E])
   refine ad ?_
   apply k12; clear k12; refine kp [1, 2, 3, 12, 21] ?_
   refine ar ?_
   refine ⟨nr, _, rfl, ?_⟩; simp only [zF, zP, M, E]
   refine VLE.of_eq ?_
   refine congrArg (fun b => AV.one (AC.bool b)) ?_
   symm
   first
   | exact un (k := k) (by omega) (by omega) (by omega)
   | exact uo (k := k) (by omega) hq
  (try simp only [zB, reduceCtorEq] at hc11)
  refine au ?_
  apply k9; clear k9; refine kp [1, 2, 3, 12, 21] ?_
  refine ae hP hN rfl ?_
  iterate 3 (refine aa rfl fun _ k0 => ?_; simp only [zO, zT, acs, reduceCtorEq, M, E, O, Z, Y, V]; (repeat refine an ?_); (try refine .inl ?_); apply k0; clear k0; simp only [zP, E])
  refine ad ?_
  refine ⟨_, _, ?_, aE [1, 2, 3], k + 1, by omega, fun q hq2 => ?_, by omega, rfl, rfl⟩
  · omega
  · by_cases e : q = k
    · rw [e]; omega
    · exact hq q (by omega)
 (try simp only [zB, reduceCtorEq] at hc8)
 refine bg ?_
 apply k2; clear k2; refine kp [1, 2, 3, 12] ?_
 refine ab fun _ k13 => ?_
 refine ae hP hN rfl ?_
 iterate 5 (refine aa rfl fun _ k0 => ?_; simp only [zO, zT, acs, reduceCtorEq, M, E, O, Z, Y, V]; (repeat refine an ?_); (try refine .inl ?_); apply k0; clear k0; simp only [zP, E])
 refine ad ?_
 apply k13; clear k13; refine kp [1, 2, 3, 12] ?_
 refine ar ?_
 refine ⟨nr, _, rfl, ?_⟩; simp only [zF, zP, M, E]
 refine VLE.of_eq ?_
 refine congrArg (fun b => AV.one (AC.bool b)) ?_
 symm
 first
 | exact un (k := k) (by omega) (by omega) (by omega)
 | exact uo (k := k) (by omega) hq
theorem qa (x : Mdl) : bE Tryd.prog 7 [x.av] (.one (.bool (mG x))) := by
 refine aO Tryd.func7 rfl (by kernel_rfl) (Nat.le_of_ble_eq_true rfl) rfl fun C hP hN hB => ?_
 replace hN : C.N = 73 := hN
 simp only [aS, E]
 refine ab fun _ k1 => ?_
 refine ae hP hN rfl ?_
 iterate 2 (refine aa rfl fun _ k0 => ?_; simp only [zO, zT, acs, reduceCtorEq, M, E, O, Z, Y, V, Mdl.av, Mdl.cs]; (repeat refine an ?_); (try refine .inl ?_); apply k0; clear k0; simp only [zP, E])
 refine ad ?_
 apply k1; clear k1; refine kp [0, 1, 2] ?_
 refine ab fun _ k2 => ?_
 refine ab fun _ k3 => ?_
 refine ae hP hN rfl ?_
 (refine aa rfl fun _ k0 => ?_; simp only [zO, zT, acs, reduceCtorEq, M, E, O, Z, Y, V, Mdl.av, Mdl.cs]; (repeat refine an ?_); (try refine .inl ?_); apply k0; clear k0; simp only [zP, E])
 refine ad ?_
 apply k3; clear k3; refine kp [0, 1, 2, 3] ?_
 refine az ?_
 refine bm (fun n4 s4 => ∃ (k : Nat), (k ≤ x.m.nx.length) ∧ (∀ q, q < k → (x.m.nx.getD q []).length ≤ 6) ∧ (k ≤ 13) ∧ n4 = x.m.nx.length - k ∧ s4 = { env := [(1, .one (.ptr 0 0 0 0)), (2, .one (.bool false)), (3, .one (.int .i64 (k : Int)))], L := [.vars 29 [.str x.nm, .list .str x.ins, .list .str x.outs, .int .i64 x.m.inp, .int .i64 x.m.st, .list (.list (.int .i64)) x.m.nx, .list (.list (.int .i64)) x.m.ot]] }) ?_ ?_
 ·exact ⟨_, _, aE [1, 2, 3], 0, Nat.zero_le _, fun q hq => by omega, by omega, rfl, rfl⟩
 rintro n4 s4 ⟨k, hk, hq, hk7, rfl, rfl⟩
 refine ab fun _ k5 => ?_
 refine ab fun _ k6 => ?_
 refine ae hP hN rfl ?_
 iterate 7 (refine aa rfl fun _ k0 => ?_; simp only [zO, zT, acs, reduceCtorEq, M, E, O, Z, Y, V, Mdl.av, Mdl.cs]; (repeat refine an ?_); (try refine .inl ?_); apply k0; clear k0; simp only [zP, E])
 refine' aw (want := true) 2 rfl (m := 11) (by simp only [zP, M, E]; exact rfl) (by kernel_rfl) rfl rfl rfl rfl rfl (fun hg7 => ?a7) ?b7 ?c7
 case a7 =>
  have hq7 := hg7; (try simp only [zB, reduceCtorEq] at hg7); simp only [zE]
  iterate 2 (refine aL rfl fun _ k0 => ?_; simp only [zO, zT, acs, reduceCtorEq, M, E, O, Z, Y, V, Mdl.av, Mdl.cs]; (repeat refine an ?_); (try refine .inl ?_); apply k0; clear k0; simp only [zP, E])
  (refine aa rfl fun _ k0 => ?_; simp only [zO, zT, acs, reduceCtorEq, M, E, O, Z, Y, V, Mdl.av, Mdl.cs]; (repeat refine an ?_); (try refine .inl ?_); apply k0; clear k0; simp only [zP, E])
  refine ad ?_
  refine ⟨by simp only [zP, M, E]; exact rfl, rfl, ?_, rfl⟩; (repeat refine ax rfl ?_); exact aM (by exact rfl) hq7
 case b7 => exact bj
 simp only [aJ, aC]
 refine ad ?_
 apply k6; clear k6; refine kp [1, 2, 3, 14] ?_
 refine cd (fun hc8 => ?_) (fun hc8 => ?_)
 ·(try simp only [zB, reduceCtorEq] at hc8)
  refine au ?_
  apply k5; clear k5; refine kp [1, 2, 3, 14] ?_
  refine ab fun _ k9 => ?_
  refine az ?_
  refine ab fun _ k10 => ?_
  refine ae hP hN rfl ?_
  iterate 8 (refine aa rfl fun _ k0 => ?_; simp only [zO, zT, acs, reduceCtorEq, M, E, O, Z, Y, V, Mdl.av, Mdl.cs]; (repeat refine an ?_); (try refine .inl ?_); apply k0; clear k0; simp only [zP, E])
  refine ad ?_
  apply k10; clear k10; refine kp [1, 2, 3, 14, 24] ?_
  refine cd (fun hc11 => ?_) (fun hc11 => ?_)
  ·(try simp only [zB, reduceCtorEq] at hc11)
   refine ab fun _ k12 => ?_
   refine ae hP hN rfl ?_
   (refine aa rfl fun _ k0 => ?_; simp only [zO, zT, acs, reduceCtorEq, M, E, O, Z, Y, V, Mdl.av, Mdl.cs]; (repeat refine an ?_); (try refine .inl ?_); apply k0; clear k0; simp only [zP, E])
   refine ad ?_
   apply k12; clear k12; refine kp [1, 2, 3, 14, 24] ?_
   refine ar ?_
   refine ⟨nr, _, rfl, ?_⟩; simp only [zF, zP, M, E, Mdl.av, Mdl.cs]
   refine VLE.of_eq ?_
   refine congrArg (fun b => AV.one (AC.bool b)) ?_
   symm
   unfold mG
   first
   | (rw [gp (l := x.m.nx) (k := k) (by omega) (by omega) (by omega)]; rfl)
   | (rw [gp (l := x.m.ot) (k := j) (by omega) (by omega) (by omega)]; simp)
   | (rw [gH (l := x.m.nx) (k := k) (by omega) hq, gH (l := x.m.ot) (k := j) (by omega) hr, Bool.false_or, Bool.false_or])
  (try simp only [zB, reduceCtorEq] at hc11)
  refine au ?_
  apply k9; clear k9; refine kp [1, 2, 3, 14, 24] ?_
  refine ae hP hN rfl ?_
  iterate 3 (refine aa rfl fun _ k0 => ?_; simp only [zO, zT, acs, reduceCtorEq, M, E, O, Z, Y, V, Mdl.av, Mdl.cs]; (repeat refine an ?_); (try refine .inl ?_); apply k0; clear k0; simp only [zP, E])
  refine ad ?_
  refine ⟨_, _, ?_, aE [1, 2, 3], k + 1, by omega, fun q hq2 => ?_, by omega, rfl, rfl⟩
  · omega
  · by_cases e : q = k
    · rw [e]; omega
    · exact hq q (by omega)
 (try simp only [zB, reduceCtorEq] at hc8)
 refine bg ?_
 apply k2; clear k2; refine kp [1, 2, 3, 14] ?_
 refine ab fun _ k13 => ?_
 refine ab fun _ k14 => ?_
 refine ae hP hN rfl ?_
 (refine aa rfl fun _ k0 => ?_; simp only [zO, zT, acs, reduceCtorEq, M, E, O, Z, Y, V, Mdl.av, Mdl.cs]; (repeat refine an ?_); (try refine .inl ?_); apply k0; clear k0; simp only [zP, E])
 refine ad ?_
 apply k14; clear k14; refine kp [1, 2, 3, 4, 14] ?_
 refine az ?_
 refine bm (fun n15 s15 => ∃ (j : Nat), (j ≤ x.m.ot.length) ∧ (∀ q, q < j → (x.m.ot.getD q []).length ≤ 6) ∧ (j ≤ 21) ∧ n15 = x.m.ot.length - j ∧ s15 = { env := [(1, .one (.ptr 0 0 0 0)), (2, .one (.bool false)), (4, .one (.int .i64 (j : Int)))], L := [.vars 29 [.str x.nm, .list .str x.ins, .list .str x.outs, .int .i64 x.m.inp, .int .i64 x.m.st, .list (.list (.int .i64)) x.m.nx, .list (.list (.int .i64)) x.m.ot]] }) ?_ ?_
 ·exact ⟨_, _, aE [1, 2, 4], 0, Nat.zero_le _, fun q hq => by omega, by omega, rfl, rfl⟩
 rintro n15 s15 ⟨j, hj, hr, hj7, rfl, rfl⟩
 refine ab fun _ k16 => ?_
 refine ab fun _ k17 => ?_
 refine ae hP hN rfl ?_
 iterate 7 (refine aa rfl fun _ k0 => ?_; simp only [zO, zT, acs, reduceCtorEq, M, E, O, Z, Y, V, Mdl.av, Mdl.cs]; (repeat refine an ?_); (try refine .inl ?_); apply k0; clear k0; simp only [zP, E])
 refine' aw (want := true) 2 rfl (m := 31) (by simp only [zP, M, E]; exact rfl) (by kernel_rfl) rfl rfl rfl rfl rfl (fun hg18 => ?a18) ?b18 ?c18
 case a18 =>
  have hq18 := hg18; (try simp only [zB, reduceCtorEq] at hg18); simp only [zE]
  iterate 2 (refine aL rfl fun _ k0 => ?_; simp only [zO, zT, acs, reduceCtorEq, M, E, O, Z, Y, V, Mdl.av, Mdl.cs]; (repeat refine an ?_); (try refine .inl ?_); apply k0; clear k0; simp only [zP, E])
  (refine aa rfl fun _ k0 => ?_; simp only [zO, zT, acs, reduceCtorEq, M, E, O, Z, Y, V, Mdl.av, Mdl.cs]; (repeat refine an ?_); (try refine .inl ?_); apply k0; clear k0; simp only [zP, E])
  refine ad ?_
  refine ⟨by simp only [zP, M, E]; exact rfl, rfl, ?_, rfl⟩; (repeat refine ax rfl ?_); exact aM (by exact rfl) hq18
 case b18 => exact bj
 simp only [aJ, aC]
 refine ad ?_
 apply k17; clear k17; refine kp [1, 2, 4, 34] ?_
 refine cd (fun hc19 => ?_) (fun hc19 => ?_)
 ·(try simp only [zB, reduceCtorEq] at hc19)
  refine au ?_
  apply k16; clear k16; refine kp [1, 2, 4, 34] ?_
  refine ab fun _ k20 => ?_
  refine az ?_
  refine ab fun _ k21 => ?_
  refine ae hP hN rfl ?_
  iterate 8 (refine aa rfl fun _ k0 => ?_; simp only [zO, zT, acs, reduceCtorEq, M, E, O, Z, Y, V, Mdl.av, Mdl.cs]; (repeat refine an ?_); (try refine .inl ?_); apply k0; clear k0; simp only [zP, E])
  refine ad ?_
  apply k21; clear k21; refine kp [1, 2, 4, 34, 44] ?_
  refine cd (fun hc22 => ?_) (fun hc22 => ?_)
  ·(try simp only [zB, reduceCtorEq] at hc22)
   refine ab fun _ k23 => ?_
   refine ae hP hN rfl ?_
   (refine aa rfl fun _ k0 => ?_; simp only [zO, zT, acs, reduceCtorEq, M, E, O, Z, Y, V, Mdl.av, Mdl.cs]; (repeat refine an ?_); (try refine .inl ?_); apply k0; clear k0; simp only [zP, E])
   refine ad ?_
   apply k23; clear k23; refine kp [1, 2, 4, 34, 44] ?_
   refine ar ?_
   refine ⟨nr, _, rfl, ?_⟩; simp only [zF, zP, M, E, Mdl.av, Mdl.cs]
   refine VLE.of_eq ?_
   refine congrArg (fun b => AV.one (AC.bool b)) ?_
   symm
   unfold mG
   first
   | (rw [gp (l := x.m.nx) (k := k) (by omega) (by omega) (by omega)]; rfl)
   | (rw [gp (l := x.m.ot) (k := j) (by omega) (by omega) (by omega)]; simp)
   | (rw [gH (l := x.m.nx) (k := k) (by omega) hq, gH (l := x.m.ot) (k := j) (by omega) hr, Bool.false_or, Bool.false_or])
  (try simp only [zB, reduceCtorEq] at hc22)
  refine au ?_
  apply k20; clear k20; refine kp [1, 2, 4, 34, 44] ?_
  refine ae hP hN rfl ?_
  iterate 3 (refine aa rfl fun _ k0 => ?_; simp only [zO, zT, acs, reduceCtorEq, M, E, O, Z, Y, V, Mdl.av, Mdl.cs]; (repeat refine an ?_); (try refine .inl ?_); apply k0; clear k0; simp only [zP, E])
  refine ad ?_
  refine ⟨_, _, ?_, aE [1, 2, 4], j + 1, by omega, fun q hq2 => ?_, by omega, rfl, rfl⟩
  · omega
  · by_cases e : q = j
    · rw [e]; omega
    · exact hr q (by omega)
 (try simp only [zB, reduceCtorEq] at hc19)
 refine bg ?_
 apply k13; clear k13; refine kp [1, 2, 4, 34] ?_
 refine ab fun _ k24 => ?_
 refine ae hP hN rfl ?_
 iterate 5 (refine aa rfl fun _ k0 => ?_; simp only [zO, zT, acs, reduceCtorEq, M, E, O, Z, Y, V, Mdl.av, Mdl.cs]; (repeat refine an ?_); (try refine .inl ?_); apply k0; clear k0; simp only [zP, E])
 refine' aw (want := false) 3 rfl (m := 49) (by simp only [zP, M, E]; exact rfl) (by kernel_rfl) rfl rfl rfl rfl rfl (fun hg25 => ?a25) ?b25 ?c25
 case a25 =>
  have hq25 := hg25; (try simp only [zB, reduceCtorEq] at hg25); simp only [zE]
  iterate 2 (refine aL rfl fun _ k0 => ?_; simp only [zO, zT, acs, reduceCtorEq, M, E, O, Z, Y, V, Mdl.av, Mdl.cs]; (repeat refine an ?_); (try refine .inl ?_); apply k0; clear k0; simp only [zP, E])
  refine aL rfl fun _ k0 => ?_
  refine ay (h := ak (lr x.ins)) rfl rfl (by first | exact rfl | (simp only [ev, zP, M, E]; exact rfl)) (by simp only [zV, acs, reduceCtorEq, M, E, O, Z, Y, V, Mdl.av, Mdl.cs]) ?_
  apply k0; clear k0; simp only [zP, E]
  (refine aa rfl fun _ k0 => ?_; simp only [zO, zT, acs, reduceCtorEq, M, E, O, Z, Y, V, Mdl.av, Mdl.cs]; (repeat refine an ?_); (try refine .inl ?_); apply k0; clear k0; simp only [zP, E])
  refine ad ?_
  refine ⟨by simp only [zP, M, E]; exact rfl, rfl, ?_, rfl⟩; (repeat refine ax rfl ?_); exact aM (by exact rfl) hq25
 case b25 => exact bj
 simp only [aJ, aC]
 (refine aa rfl fun _ k0 => ?_; simp only [zO, zT, acs, reduceCtorEq, M, E, O, Z, Y, V, Mdl.av, Mdl.cs]; (repeat refine an ?_); (try refine .inl ?_); apply k0; clear k0; simp only [zP, E])
 refine' aw (want := false) 3 rfl (m := 54) (by simp only [zP, M, E]; exact rfl) (by kernel_rfl) rfl rfl rfl rfl rfl (fun hg26 => ?a26) ?b26 ?c26
 case a26 =>
  have hq26 := hg26; (try simp only [zB, reduceCtorEq] at hg26); simp only [zE]
  iterate 2 (refine aL rfl fun _ k0 => ?_; simp only [zO, zT, acs, reduceCtorEq, M, E, O, Z, Y, V, Mdl.av, Mdl.cs]; (repeat refine an ?_); (try refine .inl ?_); apply k0; clear k0; simp only [zP, E])
  refine aL rfl fun _ k0 => ?_
  refine ay (h := ak (lr x.outs)) rfl rfl (by first | exact rfl | (simp only [ev, zP, M, E]; exact rfl)) (by simp only [zV, acs, reduceCtorEq, M, E, O, Z, Y, V, Mdl.av, Mdl.cs]) ?_
  apply k0; clear k0; simp only [zP, E]
  (refine aa rfl fun _ k0 => ?_; simp only [zO, zT, acs, reduceCtorEq, M, E, O, Z, Y, V, Mdl.av, Mdl.cs]; (repeat refine an ?_); (try refine .inl ?_); apply k0; clear k0; simp only [zP, E])
  refine ad ?_
  refine ⟨by simp only [zP, M, E]; exact rfl, rfl, ?_, rfl⟩; (repeat refine ax rfl ?_); exact aM (by exact rfl) hq26
 case b26 => exact bj
 simp only [aJ, aC]
 (refine aa rfl fun _ k0 => ?_; simp only [zO, zT, acs, reduceCtorEq, M, E, O, Z, Y, V, Mdl.av, Mdl.cs]; (repeat refine an ?_); (try refine .inl ?_); apply k0; clear k0; simp only [zP, E])
 refine' aw (want := false) 5 rfl (m := 59) (by simp only [zP, M, E]; exact rfl) (by kernel_rfl) rfl rfl rfl rfl rfl (fun hg27 => ?a27) ?b27 ?c27
 case a27 =>
  have hq27 := hg27; (try simp only [zB, reduceCtorEq] at hg27); simp only [zE]
  iterate 5 (refine aL rfl fun _ k0 => ?_; simp only [zO, zT, acs, reduceCtorEq, M, E, O, Z, Y, V, Mdl.av, Mdl.cs]; (repeat refine an ?_); (try refine .inl ?_); apply k0; clear k0; simp only [zP, E])
  (refine aa rfl fun _ k0 => ?_; simp only [zO, zT, acs, reduceCtorEq, M, E, O, Z, Y, V, Mdl.av, Mdl.cs]; (repeat refine an ?_); (try refine .inl ?_); apply k0; clear k0; simp only [zP, E])
  refine ad ?_
  refine ⟨by simp only [zP, M, E]; exact rfl, rfl, ?_, rfl⟩; (repeat refine ax rfl ?_); exact aM (by exact rfl) hq27
 case b27 => exact bj
 simp only [aJ, aC]
 (refine aa rfl fun _ k0 => ?_; simp only [zO, zT, acs, reduceCtorEq, M, E, O, Z, Y, V, Mdl.av, Mdl.cs]; (repeat refine an ?_); (try refine .inl ?_); apply k0; clear k0; simp only [zP, E])
 refine' aw (want := false) 5 rfl (m := 66) (by simp only [zP, M, E]; exact rfl) (by kernel_rfl) rfl rfl rfl rfl rfl (fun hg28 => ?a28) ?b28 ?c28
 case a28 =>
  have hq28 := hg28; (try simp only [zB, reduceCtorEq] at hg28); simp only [zE]
  iterate 5 (refine aL rfl fun _ k0 => ?_; simp only [zO, zT, acs, reduceCtorEq, M, E, O, Z, Y, V, Mdl.av, Mdl.cs]; (repeat refine an ?_); (try refine .inl ?_); apply k0; clear k0; simp only [zP, E])
  (refine aa rfl fun _ k0 => ?_; simp only [zO, zT, acs, reduceCtorEq, M, E, O, Z, Y, V, Mdl.av, Mdl.cs]; (repeat refine an ?_); (try refine .inl ?_); apply k0; clear k0; simp only [zP, E])
  refine ad ?_
  refine ⟨by simp only [zP, M, E]; exact rfl, rfl, ?_, rfl⟩; (repeat refine ax rfl ?_); exact aM (by exact rfl) hq28
 case b28 => exact bj
 simp only [aJ, aC]
 (refine aa rfl fun _ k0 => ?_; simp only [zO, zT, acs, reduceCtorEq, M, E, O, Z, Y, V, Mdl.av, Mdl.cs]; (repeat refine an ?_); (try refine .inl ?_); apply k0; clear k0; simp only [zP, E])
 refine ad ?_
 apply k24; clear k24; refine kp [1, 2, 4, 34] ?_
 refine ar ?_
 refine ⟨nr, _, rfl, ?_⟩; simp only [zF, zP, M, E, Mdl.av, Mdl.cs]
 refine VLE.of_eq ?_
 refine congrArg (fun b => AV.one (AC.bool b)) ?_
 symm
 unfold mG
 first
 | (rw [gp (l := x.m.nx) (k := k) (by omega) (by omega) (by omega)]; rfl)
 | (rw [gp (l := x.m.ot) (k := j) (by omega) (by omega) (by omega)]; simp)
 | (rw [gH (l := x.m.nx) (k := k) (by omega) hq, gH (l := x.m.ot) (k := j) (by omega) hr, Bool.false_or, Bool.false_or])
theorem tv (s : Bs) (c : UInt8) (hs : s.length ≤ 1048576) : bE Tryd.prog 13 [.one (.str s), .one (.int .u8 (c.toNat : Int))] (.one (.list .str (spB c s))) := by
 refine aO Tryd.func13 rfl (by kernel_rfl) (Nat.le_of_ble_eq_true rfl) rfl fun C hP hN hB => ?_
 replace hN : C.N = 45 := hN
 simp only [aS, E]
 refine ab fun _ k1 => ?_
 refine ae hP hN rfl ?_
 (refine aa rfl fun _ k0 => ?_; simp only [zO, zT, acs, reduceCtorEq, M, E, O, Z, Y, V]; (repeat refine an ?_); (try refine .inl ?_); apply k0; clear k0; simp only [zP, E])
 refine ad ?_
 apply k1; clear k1; refine kp [0, 1, 4] ?_
 refine ab fun _ k2 => ?_
 refine ae hP hN rfl ?_
 (refine aa rfl fun _ k0 => ?_; simp only [zO, zT, acs, reduceCtorEq, M, E, O, Z, Y, V]; (repeat refine an ?_); refine Or.inr (Or.inl (k0 _ ?_)); clear k0; simp only [zP, E])
 (refine aa rfl fun _ k0 => ?_; simp only [zO, zT, acs, reduceCtorEq, M, E, O, Z, Y, V]; (repeat refine an ?_); (try refine .inl ?_); apply k0; clear k0; simp only [zP, E])
 refine ad ?_
 apply k2; clear k2; refine kp [0, 1, 4, 5] ?_
 refine ab fun _ k3 => ?_
 refine ae hP hN rfl ?_
 (refine aa rfl fun _ k0 => ?_; simp only [zO, zT, acs, reduceCtorEq, M, E, O, Z, Y, V]; (repeat refine an ?_); (try refine .inl ?_); apply k0; clear k0; simp only [zP, E])
 refine ad ?_
 apply k3; clear k3; refine kp [0, 1, 4, 5, 6] ?_
 refine ab fun _ k4 => ?_
 refine ab fun _ k5 => ?_
 refine ae hP hN rfl ?_
 (refine aa rfl fun _ k0 => ?_; simp only [zO, zT, acs, reduceCtorEq, M, E, O, Z, Y, V]; (repeat refine an ?_); (try refine .inl ?_); apply k0; clear k0; simp only [zP, E])
 refine ad ?_
 apply k5; clear k5; refine kp [0, 1, 4, 5, 6, 7] ?_
 refine az ?_
 refine bm (fun n6 s6 => ∃ (k : Nat) (v : Nat) (o : List Bs) (f : Nat), (k ≤ s.length + 1) ∧ (k ≤ s.length → o = (dE c s k).1 ++ [[]] ∧ f = (dE c s k).2) ∧ (k = s.length + 1 → o = spB c s) ∧ n6 = s.length + 1 - k ∧ s6 = { env := [(0, .one (.str s)), (1, .one (.int .u8 (c.toNat : Int))), (4, .one .nils), (5, .one (.row 0 v)), (6, .one (.int .i64 (f : Int))), (7, .one (.int .i64 (k : Int)))], L := [.row .str 9 v o] }) ?_ ?_
 ·exact ⟨_, _, aE [0, 1, 4, 5, 6, 7], 0, 0, [[]], 0, by omega, fun _ => ⟨rfl, rfl⟩, fun h => by omega, rfl, rfl⟩
 rintro n6 s6 ⟨k, v, o, f, hk, ho, he, rfl, rfl⟩
 refine ab fun _ k7 => ?_
 refine ab fun _ k8 => ?_
 refine ae hP hN rfl ?_
 iterate 4 (refine aa rfl fun _ k0 => ?_; simp only [zO, zT, acs, reduceCtorEq, M, E, O, Z, Y, V]; (repeat refine an ?_); (try refine .inl ?_); apply k0; clear k0; simp only [zP, E])
 refine ad ?_
 apply k8; clear k8; refine kp [0, 1, 4, 5, 6, 7, 12] ?_
 refine cd (fun hc9 => ?_) (fun hc9 => ?_)
 ·(try simp only [zB, reduceCtorEq] at hc9)
  have hks : k ≤ s.length := by omega
  obtain ⟨rfl, rfl⟩ := ho hks
  have hcf := hQ c s k; have hcl := mg c s k
  refine au ?_
  apply k7; clear k7; refine kp [0, 1, 4, 5, 6, 7, 12] ?_
  refine ab fun _ k10 => ?_
  refine az ?_
  refine ab fun _ k11 => ?_
  refine ae hP hN rfl ?_
  iterate 5 (refine aa rfl fun _ k0 => ?_; simp only [zO, zT, acs, reduceCtorEq, M, E, O, Z, Y, V]; (repeat refine an ?_); (try refine .inl ?_); apply k0; clear k0; simp only [zP, E])
  refine' aw (want := false) 5 rfl (m := 19) (by simp only [zP, M, E]; exact rfl) (by kernel_rfl) rfl rfl rfl rfl rfl (fun hg12 => ?a12) ?b12 ?c12
  case a12 =>
   have hq12 := hg12; (try simp only [zB, reduceCtorEq] at hg12); simp only [zE]
   iterate 5 (refine aL rfl fun _ k0 => ?_; simp only [zO, zT, acs, reduceCtorEq, M, E, O, Z, Y, V]; (repeat refine an ?_); (try refine .inl ?_); apply k0; clear k0; simp only [zP, E])
   (refine aa rfl fun _ k0 => ?_; simp only [zO, zT, acs, reduceCtorEq, M, E, O, Z, Y, V]; (repeat refine an ?_); (try refine .inl ?_); apply k0; clear k0; simp only [zP, E])
   refine ad ?_
   refine ⟨by simp only [zP, M, E]; exact rfl, rfl, ?_, rfl⟩; (repeat refine ax rfl ?_); exact aM (by exact rfl) hq12
  case b12 => exact bj
  simp only [aJ, aC]
  refine ad ?_
  apply k11; clear k11; refine kp [0, 1, 4, 5, 6, 7, 12, 25] ?_
  refine cd (fun hc13 => ?_) (fun hc13 => ?_)
  ·(try simp only [zB, reduceCtorEq] at hc13)
   refine ab fun _ k14 => ?_
   refine ae hP hN rfl ?_
   iterate 7 (refine aa rfl fun _ k0 => ?_; simp only [zO, zT, acs, reduceCtorEq, M, E, O, Z, Y, V, ag, ah, aq]; (repeat refine an ?_); (try refine .inl ?_); apply k0; clear k0; simp only [zP, E, sn, jA])
   (refine aa rfl fun _ k0 => ?_; simp only [zE, op1, ev, lkp, cT, br, cA, iW, hZ, bW, cE, eW, Nat.div_one, di, cM, Ty.size, aV, dite_true, ex, bz, cR, dx, cF, dr, cp, bnd, co, zG, Ty.dflt, Nat.mul_one, ne_eq, not_false_eq_true, Int.natCast_one, Int.mul_one, dw, bp, aY, acs, reduceCtorEq, M, E, O, Z, Y, V, Tryd.el22, Tryd.td22, Tryd.td3, Tryd.td9, ag, ah, aq]; (repeat refine an ?_); (try refine .inl ?_); apply k0; clear k0; simp only [zP, E, sn, jA])
   iterate 2 (refine aa rfl fun _ k0 => ?_; simp only [zO, zT, acs, reduceCtorEq, M, E, O, Z, Y, V, ag, ah, aq]; (repeat refine an ?_); (try refine .inl ?_); apply k0; clear k0; simp only [zP, E, sn, jA])
   refine ad ?_
   apply k14; clear k14; refine kp [0, 1, 4, 5, 6, 7, 12, 25] ?_
   refine ab fun _ k15 => ?_
   refine ae hP hN rfl ?_
   iterate 3 (refine aa rfl fun _ k0 => ?_; simp only [zO, zT, acs, reduceCtorEq, M, E, O, Z, Y, V]; (repeat refine an ?_); (try refine .inl ?_); apply k0; clear k0; simp only [zP, E])
   refine ad ?_
   apply k15; clear k15; refine kp [0, 1, 4, 5, 6, 7, 12, 25] ?_
   refine ab fun _ k16 => ?_
   refine ae hP hN rfl ?_
   iterate 4 (refine aa rfl fun _ k0 => ?_; simp only [zO, zT, acs, reduceCtorEq, M, E, O, Z, Y, V]; (repeat refine an ?_); (try refine .inl ?_); apply k0; clear k0; simp only [zP, E])
   refine ad ?_
   apply k16; clear k16; refine kp [0, 1, 4, 5, 6, 7, 12, 25, 40] ?_
   refine cd (fun hc17 => ?_) (fun hc17 => ?_)
   ·(try simp only [zB, reduceCtorEq] at hc17)
    refine ae hP hN rfl ?_
    iterate 4 (refine aa rfl fun _ k0 => ?_; simp only [zO, zT, acs, reduceCtorEq, M, E, O, Z, Y, V, ag, ah, aq]; (repeat refine an ?_); (try refine .inl ?_); apply k0; clear k0; simp only [zP, E])
    refine ad ?_
    apply k10; clear k10; refine kp [0, 1, 4, 5, 6, 7, 12, 25, 40] ?_
    refine ae hP hN rfl ?_
    iterate 3 (refine aa rfl fun _ k0 => ?_; simp only [zO, zT, acs, reduceCtorEq, M, E, O, Z, Y, V]; (repeat refine an ?_); (try refine .inl ?_); apply k0; clear k0; simp only [zP, E])
    refine ad ?_
    first
    | (have h32 : bt s k = (c.toNat : Int) := by unfold bt; omega
       refine ⟨_, _, ?_, aE [0, 1, 4, 5, 6, 7], k + 1, v + 1, _, k + 1, by omega, fun _ => ?_, fun h => by omega, rfl, rfl⟩
       · omega
       · rw [gE h32]; exact ⟨rfl, rfl⟩)
    | (refine ⟨_, _, ?_, aE [0, 1, 4, 5, 6, 7], k + 1, v, _, k + 1, by omega, fun h => by omega, fun _ => ?_, rfl, rfl⟩
       · omega
       · have e : k = s.length := by omega
         subst e; exact jj c s)
    | (have h32 : ¬ bt s k = (c.toNat : Int) := by unfold bt; omega
       refine ⟨_, _, ?_, aE [0, 1, 4, 5, 6, 7], k + 1, v, _, _, by omega, fun h => ?_, fun h => by omega, rfl, rfl⟩
       · omega
       · rw [iG h32]; exact ⟨rfl, rfl⟩)
   (try simp only [zB, reduceCtorEq] at hc17)
   refine au ?_
   apply k10; clear k10; refine kp [0, 1, 4, 5, 6, 7, 12, 25, 40] ?_
   refine ae hP hN rfl ?_
   iterate 3 (refine aa rfl fun _ k0 => ?_; simp only [zO, zT, acs, reduceCtorEq, M, E, O, Z, Y, V]; (repeat refine an ?_); (try refine .inl ?_); apply k0; clear k0; simp only [zP, E])
   refine ad ?_
   first
   | (have h32 : bt s k = (c.toNat : Int) := by unfold bt; omega
      refine ⟨_, _, ?_, aE [0, 1, 4, 5, 6, 7], k + 1, v + 1, _, k + 1, by omega, fun _ => ?_, fun h => by omega, rfl, rfl⟩
      · omega
      · rw [gE h32]; exact ⟨rfl, rfl⟩)
   | (refine ⟨_, _, ?_, aE [0, 1, 4, 5, 6, 7], k + 1, v, _, k + 1, by omega, fun h => by omega, fun _ => ?_, rfl, rfl⟩
      · omega
      · have e : k = s.length := by omega
        subst e; exact jj c s)
   | (have h32 : ¬ bt s k = (c.toNat : Int) := by unfold bt; omega
      refine ⟨_, _, ?_, aE [0, 1, 4, 5, 6, 7], k + 1, v, _, _, by omega, fun h => ?_, fun h => by omega, rfl, rfl⟩
      · omega
      · rw [iG h32]; exact ⟨rfl, rfl⟩)
  (try simp only [zB, reduceCtorEq] at hc13)
  refine au ?_
  apply k10; clear k10; refine kp [0, 1, 4, 5, 6, 7, 12, 25] ?_
  refine ae hP hN rfl ?_
  iterate 3 (refine aa rfl fun _ k0 => ?_; simp only [zO, zT, acs, reduceCtorEq, M, E, O, Z, Y, V]; (repeat refine an ?_); (try refine .inl ?_); apply k0; clear k0; simp only [zP, E])
  refine ad ?_
  first
  | (have h32 : bt s k = (c.toNat : Int) := by unfold bt; omega
     refine ⟨_, _, ?_, aE [0, 1, 4, 5, 6, 7], k + 1, v + 1, _, k + 1, by omega, fun _ => ?_, fun h => by omega, rfl, rfl⟩
     · omega
     · rw [gE h32]; exact ⟨rfl, rfl⟩)
  | (refine ⟨_, _, ?_, aE [0, 1, 4, 5, 6, 7], k + 1, v, _, k + 1, by omega, fun h => by omega, fun _ => ?_, rfl, rfl⟩
     · omega
     · have e : k = s.length := by omega
       subst e; exact jj c s)
  | (have h32 : ¬ bt s k = (c.toNat : Int) := by unfold bt; omega
     refine ⟨_, _, ?_, aE [0, 1, 4, 5, 6, 7], k + 1, v, _, _, by omega, fun h => ?_, fun h => by omega, rfl, rfl⟩
     · omega
     · rw [iG h32]; exact ⟨rfl, rfl⟩)
 (try simp only [zB, reduceCtorEq] at hc9)
 refine bg ?_
 apply k4; clear k4; refine kp [0, 1, 4, 5, 6, 7, 12] ?_
 refine ab fun _ k18 => ?_
 refine ae hP hN rfl ?_
 iterate 2 (refine aa rfl fun _ k0 => ?_; simp only [zO, zT, acs, reduceCtorEq, M, E, O, Z, Y, V]; (repeat refine an ?_); (try refine .inl ?_); apply k0; clear k0; simp only [zP, E])
 refine ad ?_
 apply k18; clear k18; refine kp [0, 1, 4, 5, 6, 7, 12] ?_
 refine ar ?_
 refine ⟨nr, _, rfl, ?_⟩; simp only [zF, zP, M, E]
 refine VLE.of_eq ?_
 rw [he (by omega)]
theorem ra (s : Bs) (hs : s.length ≤ 1048576) : bE Tryd.prog 13 [.one (.str s), .one (.int .u8 10)] (.one (.list .str (spB 10 s))) := tv s 10 hs
set_option maxHeartbeats 2000000 in
theorem ul (x : Mdl) (n : Int) (hn : 0 ≤ n ∧ n < 256) : bE Tryd.prog 6 [x.av, .one (.int .u8 n)] (.one (.bool true)) := by
 refine aO Tryd.func6 rfl (by kernel_rfl) (Nat.le_of_ble_eq_true rfl) rfl fun C hP hN hB => ?_
 replace hN : C.N = 91 := hN
 simp only [aS, E]
 obtain ⟨t, rfl⟩ := Int.eq_ofNat_of_zero_le hn.1
 refine ab fun _ k1 => ?_
 refine ae hP hN rfl ?_
 iterate 2 (refine aa rfl fun _ k0 => ?_; simp only [zO, zT, acs, reduceCtorEq, M, E, O, Z, Y, V, Mdl.av, Mdl.cs]; (repeat refine an ?_); (try refine .inl ?_); apply k0; clear k0; simp only [zP, E])
 refine ad ?_
 apply k1; clear k1; refine kp [0, 1, 2, 4] ?_
 refine ab fun _ k2 => ?_
 refine ab fun _ k3 => ?_
 refine ae hP hN rfl ?_
 (refine aa rfl fun _ k0 => ?_; simp only [zO, zT, acs, reduceCtorEq, M, E, O, Z, Y, V, Mdl.av, Mdl.cs]; (repeat refine an ?_); (try refine .inl ?_); apply k0; clear k0; simp only [zP, E])
 refine aa rfl fun _ k0 => ?_
 refine ay (h := ak (qa x)) rfl rfl (by first | exact rfl | (simp only [ev, zP, M, E]; exact rfl)) (by simp only [zV, acs, reduceCtorEq, M, E, O, Z, Y, V, Mdl.av, Mdl.cs]) ?_
 apply k0; clear k0; simp only [zP, E]
 (refine aa rfl fun _ k0 => ?_; simp only [zO, zT, acs, reduceCtorEq, M, E, O, Z, Y, V, Mdl.av, Mdl.cs]; (repeat refine an ?_); (try refine .inl ?_); apply k0; clear k0; simp only [zP, E])
 refine' aw (want := false) 3 rfl (m := 17) (by simp only [zP, M, E]; exact rfl) (by kernel_rfl) rfl rfl rfl rfl rfl (fun hg4 => ?a4) ?b4 ?c4
 case a4 =>
  have hq4 := hg4; (try simp only [zB, reduceCtorEq] at hg4); simp only [zE]
  (refine aL rfl fun _ k0 => ?_; simp only [zO, zT, acs, reduceCtorEq, M, E, O, Z, Y, V, Mdl.av, Mdl.cs]; (repeat refine an ?_); (try refine .inl ?_); apply k0; clear k0; simp only [zP, E])
  refine aL rfl fun _ k0 => ?_
  refine ay (h := ak (lj x)) rfl rfl (by first | exact rfl | (simp only [ev, zP, M, E]; exact rfl)) (by simp only [zV, acs, reduceCtorEq, M, E, O, Z, Y, V, Mdl.av, Mdl.cs]) ?_
  apply k0; clear k0; simp only [zP, E]
  (refine aL rfl fun _ k0 => ?_; simp only [zO, zT, acs, reduceCtorEq, M, E, O, Z, Y, V, Mdl.av, Mdl.cs]; (repeat refine an ?_); (try refine .inl ?_); apply k0; clear k0; simp only [zP, E])
  (refine aa rfl fun _ k0 => ?_; simp only [zO, zT, acs, reduceCtorEq, M, E, O, Z, Y, V, Mdl.av, Mdl.cs]; (repeat refine an ?_); (try refine .inl ?_); apply k0; clear k0; simp only [zP, E])
  refine ad ?_
  refine ⟨by simp only [zP, M, E]; exact rfl, rfl, ?_, rfl⟩; (repeat refine ax rfl ?_); exact aM (by exact rfl) hq4
 case b4 => exact bj
 simp only [aJ, aC]
 refine ad ?_
 apply k3; clear k3; refine kp [0, 1, 2, 4, 21] ?_
 refine cd (fun hc5 => ?_) (fun hc5 => ?_)
 ·(try simp only [zB, reduceCtorEq] at hc5)
  refine ab fun _ k6 => ?_
  refine ae hP hN rfl ?_
  refine aa rfl fun _ k0 => ?_
  refine ay (h := ak kL) rfl rfl (by first | exact rfl | (simp only [ev, zP, M, E]; exact rfl)) (by simp only [zV, acs, reduceCtorEq, M, E, O, Z, Y, V, Mdl.av, Mdl.cs]) ?_
  apply k0; clear k0; simp only [zP, E]
  (refine aa rfl fun _ k0 => ?_; simp only [zO, zT, acs, reduceCtorEq, M, E, O, Z, Y, V, Mdl.av, Mdl.cs]; (repeat refine an ?_); (try refine .inl ?_); apply k0; clear k0; simp only [zP, E])
  refine ad ?_
  apply k6; clear k6; refine kp [0, 1, 2, 4, 21] ?_
  refine ar ?_
  refine ⟨nr, _, rfl, ?_⟩; simp only [zF, zP, M, E, Mdl.av, Mdl.cs]
  refine VLE.of_eq ?_
  first
  | rfl
  | (rw [hpo1, fY]; rfl)
 (try simp only [zB, reduceCtorEq] at hc5)
 have hgr := hc5
 have hv0 : mvE x = 0 := hgr.2
 have hg1 := oC hgr.1
 have hsz := oE hv0
 have hln := rU hv0
 have hnk := pd hv0
 have htl := mU (SM x)
 have htl2 : (bc (spB 10 (SM x))).length = (SM x).length + 1 := by rw [htl]; simp
 refine au ?_
 apply k2; clear k2; refine kp [0, 1, 2, 4, 21] ?_
 refine ab fun _ k7 => ?_
 refine ae hP hN rfl ?_
 (refine aa rfl fun _ k0 => ?_; simp only [zO, zT, acs, reduceCtorEq, M, E, O, Z, Y, V, Mdl.av, Mdl.cs]; (repeat refine an ?_); (try refine .inl ?_); apply k0; clear k0; simp only [zP, E])
 refine aa rfl fun _ k0 => ?_
 refine ay (h := ak (ml x (fun _ => by omega))) rfl rfl (by first | exact rfl | (simp only [ev, zP, M, E]; exact rfl)) (by simp only [zV, acs, reduceCtorEq, M, E, O, Z, Y, V, Mdl.av, Mdl.cs]) ?_
 apply k0; clear k0; simp only [zP, E]
 iterate 5 (refine aa rfl fun _ k0 => ?_; simp only [zO, zT, acs, reduceCtorEq, M, E, O, Z, Y, V, Mdl.av, Mdl.cs]; (repeat refine an ?_); (try refine .inl ?_); apply k0; clear k0; simp only [zP, E])
 refine ad ?_
 apply k7; clear k7; refine kp [0, 1, 2, 4, 5, 6, 21] ?_
 refine ab fun _ k8 => ?_
 refine ae hP hN rfl ?_
 (refine aa rfl fun _ k0 => ?_; simp only [zO, zT, acs, reduceCtorEq, M, E, O, Z, Y, V, Mdl.av, Mdl.cs]; (repeat refine an ?_); (try refine .inl ?_); apply k0; clear k0; simp only [zP, E])
 refine aa rfl fun _ k0 => ?_
 refine ay (h := ak (ra (SM x) (by omega))) rfl rfl (by first | exact rfl | (simp only [ev, zP, M, E]; exact rfl)) (by simp only [zV, acs, reduceCtorEq, M, E, O, Z, Y, V, Mdl.av, Mdl.cs]) ?_
 apply k0; clear k0; simp only [zP, E]
 (refine aa rfl fun _ k0 => ?_; simp only [zO, zT, acs, reduceCtorEq, M, E, O, Z, Y, V, Mdl.av, Mdl.cs]; (repeat refine an ?_); (try refine .inl ?_); apply k0; clear k0; simp only [zP, E])
 refine ad ?_
 apply k8; clear k8; refine kp [0, 1, 2, 4, 5, 6, 7, 21] ?_
 refine ab fun _ k9 => ?_
 refine ae hP hN rfl ?_
 iterate 4 (refine aa rfl fun _ k0 => ?_; simp only [zO, zT, acs, reduceCtorEq, M, E, O, Z, Y, V, Mdl.av, Mdl.cs]; (repeat refine an ?_); (try refine .inl ?_); apply k0; clear k0; simp only [zP, E])
 refine ad ?_
 apply k9; clear k9; refine kp [0, 1, 2, 4, 5, 6, 7, 8, 21] ?_
 refine ab fun _ k10 => ?_
 refine ab fun _ k11 => ?_
 refine ae hP hN rfl ?_
 iterate 3 (refine aa rfl fun _ k0 => ?_; simp only [zO, zT, acs, reduceCtorEq, M, E, O, Z, Y, V, Mdl.av, Mdl.cs]; (repeat refine an ?_); (try refine .inl ?_); apply k0; clear k0; simp only [zP, E])
 refine' aw (want := false) 2 rfl (m := 35) (by simp only [zP, M, E]; exact rfl) (by kernel_rfl) rfl rfl rfl rfl rfl (fun hg12 => ?a12) ?b12 ?c12
 case a12 =>
  have hq12 := hg12; (try simp only [zB, reduceCtorEq] at hg12); simp only [zE]
  iterate 2 (refine aL rfl fun _ k0 => ?_; simp only [zO, zT, acs, reduceCtorEq, M, E, O, Z, Y, V, Mdl.av, Mdl.cs]; (repeat refine an ?_); (try refine .inl ?_); apply k0; clear k0; simp only [zP, E])
  (refine aa rfl fun _ k0 => ?_; simp only [zO, zT, acs, reduceCtorEq, M, E, O, Z, Y, V, Mdl.av, Mdl.cs]; (repeat refine an ?_); (try refine .inl ?_); apply k0; clear k0; simp only [zP, E])
  refine ad ?_
  refine ⟨by simp only [zP, M, E]; exact rfl, rfl, ?_, rfl⟩; (repeat refine ax rfl ?_); exact aM (by exact rfl) hq12
 case b12 => exact bj
 simp only [aJ, aC]
 refine ad ?_
 apply k11; clear k11; refine kp [0, 1, 2, 4, 5, 6, 7, 8, 21, 38] ?_
 refine cd (fun hc13 => ?_) (fun hc13 => ?_)
 · exfalso; (try simp only [zB, reduceCtorEq] at hc13); all_goals (first | (cases hc13; done) | omega | (simp at hc13; done) | (simp_all; done))
 (try simp only [zB, reduceCtorEq] at hc13)
 refine au ?_
 apply k10; clear k10; refine kp [0, 1, 2, 4, 5, 6, 7, 8, 21, 38] ?_
 refine ab fun _ k14 => ?_
 refine ae hP hN rfl ?_
 (refine aa rfl fun _ k0 => ?_; simp only [zO, zT, acs, reduceCtorEq, M, E, O, Z, Y, V, Mdl.av, Mdl.cs]; (repeat refine an ?_); (try refine .inl ?_); apply k0; clear k0; simp only [zP, E])
 refine ad ?_
 apply k14; clear k14; refine kp [0, 1, 2, 4, 5, 6, 7, 8, 9, 21, 38] ?_
 refine ab fun _ k15 => ?_
 refine ab fun _ k16 => ?_
 refine ae hP hN rfl ?_
 (refine aa rfl fun _ k0 => ?_; simp only [zO, zT, acs, reduceCtorEq, M, E, O, Z, Y, V, Mdl.av, Mdl.cs]; (repeat refine an ?_); (try refine .inl ?_); apply k0; clear k0; simp only [zP, E])
 refine ad ?_
 apply k16; clear k16; refine kp [0, 1, 2, 4, 5, 6, 7, 8, 9, 10, 21, 38] ?_
 refine az ?_
 refine bm (fun n17 s17 => ∃ (k : Nat), (k ≤ 5) ∧ n17 = 5 - k ∧ s17 = { env := [(1, .one (.int .u8 (t : Int))), (2, .one (.ptr 0 0 0 0)), (4, .one (.bool false)), (7, .one (.list .str (spB 10 (SM x)))), (8, .one (.int .i64 ((((spB 10 (SM x)).length : Nat) : Int) - 6))), (9, .one (.str (bc ((spB 10 (SM x)).take k)))), (10, .one (.int .i64 (k : Int)))], L := [.vars 29 [.str x.nm, .list .str x.ins, .list .str x.outs, .int .i64 x.m.inp, .int .i64 x.m.st, .list (.list (.int .i64)) x.m.nx, .list (.list (.int .i64)) x.m.ot]] }) ?_ ?_
 ·exact ⟨_, _, aE [1, 2, 4, 7, 8, 9, 10], 0, Nat.zero_le _, rfl, rfl⟩
 rintro n17 s17 ⟨k, hk, rfl, rfl⟩
 refine ab fun _ k18 => ?_
 refine ab fun _ k19 => ?_
 refine ae hP hN rfl ?_
 iterate 2 (refine aa rfl fun _ k0 => ?_; simp only [zO, zT, acs, reduceCtorEq, M, E, O, Z, Y, V, Mdl.av, Mdl.cs]; (repeat refine an ?_); (try refine .inl ?_); apply k0; clear k0; simp only [zP, E])
 refine ad ?_
 apply k19; clear k19; refine kp [1, 2, 4, 7, 8, 9, 10, 40] ?_
 refine cd (fun hc20 => ?_) (fun hc20 => ?_)
 ·(try simp only [zB, reduceCtorEq] at hc20)
  refine au ?_
  apply k18; clear k18; refine kp [1, 2, 4, 7, 8, 9, 10, 40] ?_
  refine ab fun _ k21 => ?_
  refine az ?_
  have hgl := fx 10 (SM x) k
  have htk := ga (spB 10 (SM x)) k
  have hts := oJ (l := (spB 10 (SM x))) (k := k) (by omega)
  refine ae hP hN rfl ?_
  iterate 8 (refine aa rfl fun _ k0 => ?_; simp only [zO, zT, acs, reduceCtorEq, M, E, O, Z, Y, V, Mdl.av, Mdl.cs, ag, ah, aq]; (repeat refine an ?_); (try refine .inl ?_); apply k0; clear k0; simp only [zP, E])
  refine ad ?_
  apply k21; clear k21; refine kp [1, 2, 4, 7, 8, 9, 10, 40] ?_
  refine ae hP hN rfl ?_
  iterate 3 (refine aa rfl fun _ k0 => ?_; simp only [zO, zT, acs, reduceCtorEq, M, E, O, Z, Y, V, Mdl.av, Mdl.cs]; (repeat refine an ?_); (try refine .inl ?_); apply k0; clear k0; simp only [zP, E])
  refine ad ?_
  refine ⟨_, _, ?_, aE [1, 2, 4, 7, 8, 9, 10], k + 1, by omega, rfl, ?_⟩
  · omega
  · rw [hts]; rfl
 (try simp only [zB, reduceCtorEq] at hc20)
 refine bg ?_
 apply k15; clear k15; refine kp [1, 2, 4, 7, 8, 9, 10, 40] ?_
 refine ab fun _ k22 => ?_
 refine ab fun _ k23 => ?_
 refine ae hP hN rfl ?_
 (refine aa rfl fun _ k0 => ?_; simp only [zO, zT, acs, reduceCtorEq, M, E, O, Z, Y, V, Mdl.av, Mdl.cs]; (repeat refine an ?_); (try refine .inl ?_); apply k0; clear k0; simp only [zP, E])
 refine ad ?_
 apply k23; clear k23; refine kp [1, 2, 4, 7, 8, 9, 10, 11, 40] ?_
 refine az ?_
 refine bm (fun n24 s24 => ∃ (k : Nat), (k ≤ (x.m.nx.length * x.ins.length)) ∧ n24 = (x.m.nx.length * x.ins.length) + 1 - k ∧ s24 = { env := [(1, .one (.int .u8 (t : Int))), (2, .one (.ptr 0 0 0 0)), (4, .one (.bool false)), (7, .one (.list .str (spB 10 (SM x)))), (8, .one (.int .i64 ((((spB 10 (SM x)).length : Nat) : Int) - 6))), (9, .one (.str (bc ((spB 10 (SM x)).take 5 ++ dF (spB 10 (SM x)) (x.m.nx.length * x.ins.length) t k)))), (11, .one (.int .i64 (k : Int)))], L := [.vars 29 [.str x.nm, .list .str x.ins, .list .str x.outs, .int .i64 x.m.inp, .int .i64 x.m.st, .list (.list (.int .i64)) x.m.nx, .list (.list (.int .i64)) x.m.ot]] }) ?_ ?_
 ·obtain rfl : k = 5 := by omega
  refine ⟨_, _, aE [1, 2, 4, 7, 8, 9, 11], 0, Nat.zero_le _, rfl, ?_⟩
  rw [show dF (spB 10 (SM x)) (x.m.nx.length * x.ins.length) t 0 = [] from rfl, List.append_nil]; rfl
 rintro n24 s24 ⟨k, hk, rfl, rfl⟩
 refine ab fun _ k25 => ?_
 refine ab fun _ k26 => ?_
 refine ae hP hN rfl ?_
 iterate 3 (refine aa rfl fun _ k0 => ?_; simp only [zO, zT, acs, reduceCtorEq, M, E, O, Z, Y, V, Mdl.av, Mdl.cs]; (repeat refine an ?_); (try refine .inl ?_); apply k0; clear k0; simp only [zP, E])
 refine ad ?_
 apply k26; clear k26; refine kp [1, 2, 4, 7, 8, 9, 11, 52] ?_
 refine cd (fun hc27 => ?_) (fun hc27 => ?_)
 ·(try simp only [zB, reduceCtorEq] at hc27)
  refine au ?_
  apply k25; clear k25; refine kp [1, 2, 4, 7, 8, 9, 11, 52] ?_
  refine ab fun _ k28 => ?_
  refine az ?_
  have hq : Int.tmod ((((spB 10 (SM x)).length : Nat) : Int) - 6 - 1 - (k : Int) + (t : Int)) ((((spB 10 (SM x)).length : Nat) : Int) - 6) = ((da (x.m.nx.length * x.ins.length) t k : Nat) : Int) := by
    rw [show (((spB 10 (SM x)).length : Nat) : Int) - 6 - 1 - (k : Int) + (t : Int) = (((x.m.nx.length * x.ins.length) - 1 - k + t : Nat) : Int) by omega, show (((spB 10 (SM x)).length : Nat) : Int) - 6 = (((x.m.nx.length * x.ins.length) : Nat) : Int) by omega]; rfl
  have hql := et (n := (x.m.nx.length * x.ins.length)) (t := t) (i := k) (by omega)
  have hto : (5 + ((da (x.m.nx.length * x.ins.length) t k : Nat) : Int)).toNat = 5 + da (x.m.nx.length * x.ins.length) t k := by omega
  have hgl := fx 10 (SM x) (5 + da (x.m.nx.length * x.ins.length) t k)
  have hol := ri (s := SM x) hsz (n := (x.m.nx.length * x.ins.length)) (t := t) (i := k) (by omega)
  have hot := qe (spB 10 (SM x)) (x.m.nx.length * x.ins.length) t k ((spB 10 (SM x)).take 5)
  refine ae hP hN rfl ?_
  iterate 7 (refine aa rfl fun _ k0 => ?_; simp only [zO, zT, acs, reduceCtorEq, M, E, O, Z, Y, V, Mdl.av, Mdl.cs, hq, hto, ag, ah, aq]; (repeat refine an ?_); (try refine .inl ?_); apply k0; clear k0; simp only [zP, E])
  (refine aa rfl fun _ k0 => ?_; simp only [zE, op1, ev, lkp, cT, br, ex, bz, cR, dx, cF, dr, ig, co, zG, Ty.dflt, Ty.size, Nat.mul_one, ne_eq, not_false_eq_true, Int.natCast_one, Int.mul_one, fw, bS, cV, acs, ck, reduceCtorEq, M, E, O, Z, Y, V, Tryd.el22, Tryd.td22, Tryd.td3, Tryd.td5, Tryd.td9, Mdl.av, Mdl.cs, hq, hto, ag, ah, aq]; (repeat refine an ?_); (try refine .inl ?_); apply k0; clear k0; simp only [zP, E])
  iterate 9 (refine aa rfl fun _ k0 => ?_; simp only [zO, zT, acs, reduceCtorEq, M, E, O, Z, Y, V, Mdl.av, Mdl.cs, hq, hto, ag, ah, aq]; (repeat refine an ?_); (try refine .inl ?_); apply k0; clear k0; simp only [zP, E])
  refine ad ?_
  apply k28; clear k28; refine kp [1, 2, 4, 7, 8, 9, 11, 52] ?_
  refine ae hP hN rfl ?_
  iterate 3 (refine aa rfl fun _ k0 => ?_; simp only [zO, zT, acs, reduceCtorEq, M, E, O, Z, Y, V, Mdl.av, Mdl.cs]; (repeat refine an ?_); (try refine .inl ?_); apply k0; clear k0; simp only [zP, E])
  refine ad ?_
  refine ⟨_, _, ?_, aE [1, 2, 4, 7, 8, 9, 11], k + 1, by omega, rfl, ?_⟩
  · omega
  · rw [hot]; rfl
 (try simp only [zB, reduceCtorEq] at hc27)
 refine bg ?_
 apply k22; clear k22; refine kp [1, 2, 4, 7, 8, 9, 11, 52] ?_
 refine ab fun _ k29 => ?_
 obtain rfl : k = (x.m.nx.length * x.ins.length) := by omega
 obtain ⟨hpo1, hpo2⟩ := tL hv0 t
 refine ae hP hN rfl ?_
 (refine aa rfl fun _ k0 => ?_; simp only [zO, zT, acs, reduceCtorEq, M, E, O, Z, Y, V, Mdl.av, Mdl.cs]; (repeat refine an ?_); (try refine .inl ?_); apply k0; clear k0; simp only [zP, E])
 refine aa rfl fun _ k0 => ?_
 refine ay (h := ak (eh (bc ((spB 10 (SM x)).take 5 ++ dF (spB 10 (SM x)) (x.m.nx.length * x.ins.length) t (x.m.nx.length * x.ins.length))) (by omega))) rfl rfl (by first | exact rfl | (simp only [ev, zP, M, E]; exact rfl)) (by simp only [zV, acs, reduceCtorEq, M, E, O, Z, Y, V, Mdl.av, Mdl.cs]) ?_
 apply k0; clear k0; simp only [zP, E]
 iterate 8 (refine aa rfl fun _ k0 => ?_; simp only [zO, zT, acs, reduceCtorEq, M, E, O, Z, Y, V, Mdl.av, Mdl.cs]; (repeat refine an ?_); (try refine .inl ?_); apply k0; clear k0; simp only [zP, E])
 refine ad ?_
 apply k29; clear k29; refine kp [1, 2, 4, 7, 8, 9, 11, 12, 13, 14, 52] ?_
 refine ab fun _ k30 => ?_
 refine ae hP hN rfl ?_
 iterate 2 (refine aa rfl fun _ k0 => ?_; simp only [zO, zT, acs, reduceCtorEq, M, E, O, Z, Y, V, Mdl.av, Mdl.cs]; (repeat refine an ?_); (try refine .inl ?_); apply k0; clear k0; simp only [zP, E])
 refine aa rfl fun _ k0 => ?_
 refine ay (h := ak (oO (PM (bc ((spB 10 (SM x)).take 5 ++ dF (spB 10 (SM x)) (x.m.nx.length * x.ins.length) t (x.m.nx.length * x.ins.length)))).1 x)) rfl rfl (by first | exact rfl | (simp only [ev, zP, M, E]; exact rfl)) (by simp only [zV, acs, reduceCtorEq, M, E, O, Z, Y, V, Mdl.av, Mdl.cs]) ?_
 apply k0; clear k0; simp only [zP, E]
 (refine aa rfl fun _ k0 => ?_; simp only [zO, zT, acs, reduceCtorEq, M, E, O, Z, Y, V, Mdl.av, Mdl.cs]; (repeat refine an ?_); (try refine .inl ?_); apply k0; clear k0; simp only [zP, E])
 refine' aw (want := true) 2 rfl (m := 80) (by simp only [zP, M, E]; exact rfl) (by kernel_rfl) rfl rfl rfl rfl rfl (fun hg31 => ?a31) ?b31 ?c31
 case a31 =>
  have hq31 := hg31; (try simp only [zB, reduceCtorEq] at hg31); simp only [zE]
  iterate 2 (refine aL rfl fun _ k0 => ?_; simp only [zO, zT, acs, reduceCtorEq, M, E, O, Z, Y, V, Mdl.av, Mdl.cs]; (repeat refine an ?_); (try refine .inl ?_); apply k0; clear k0; simp only [zP, E])
  (refine aa rfl fun _ k0 => ?_; simp only [zO, zT, acs, reduceCtorEq, M, E, O, Z, Y, V, Mdl.av, Mdl.cs]; (repeat refine an ?_); (try refine .inl ?_); apply k0; clear k0; simp only [zP, E])
  refine ad ?_
  refine ⟨by simp only [zP, M, E]; exact rfl, rfl, ?_, rfl⟩; (repeat refine ax rfl ?_); exact aM (by exact rfl) hq31
 case b31 => exact bj
 simp only [aJ, aC]
 (refine aa rfl fun _ k0 => ?_; simp only [zO, zT, acs, reduceCtorEq, M, E, O, Z, Y, V, Mdl.av, Mdl.cs]; (repeat refine an ?_); (try refine .inl ?_); apply k0; clear k0; simp only [zP, E])
 refine' aw (want := true) 2 rfl (m := 84) (by simp only [zP, M, E]; exact rfl) (by kernel_rfl) rfl rfl rfl rfl rfl (fun hg32 => ?a32) ?b32 ?c32
 case a32 =>
  have hq32 := hg32; (try simp only [zB, reduceCtorEq] at hg32); simp only [zE]
  iterate 2 (refine aL rfl fun _ k0 => ?_; simp only [zO, zT, acs, reduceCtorEq, M, E, O, Z, Y, V, Mdl.av, Mdl.cs]; (repeat refine an ?_); (try refine .inl ?_); apply k0; clear k0; simp only [zP, E])
  (refine aa rfl fun _ k0 => ?_; simp only [zO, zT, acs, reduceCtorEq, M, E, O, Z, Y, V, Mdl.av, Mdl.cs]; (repeat refine an ?_); (try refine .inl ?_); apply k0; clear k0; simp only [zP, E])
  refine ad ?_
  refine ⟨by simp only [zP, M, E]; exact rfl, rfl, ?_, rfl⟩; (repeat refine ax rfl ?_); exact aM (by exact rfl) hq32
 case b32 => exact bj
 simp only [aJ, aC]
 (refine aa rfl fun _ k0 => ?_; simp only [zO, zT, acs, reduceCtorEq, M, E, O, Z, Y, V, Mdl.av, Mdl.cs]; (repeat refine an ?_); (try refine .inl ?_); apply k0; clear k0; simp only [zP, E])
 refine' aw (want := true) 1 rfl (m := 88) (by simp only [zP, M, E]; exact rfl) (by kernel_rfl) rfl rfl rfl rfl rfl (fun hg33 => ?a33) ?b33 ?c33
 case a33 =>
  have hq33 := hg33; (try simp only [zB, reduceCtorEq] at hg33); simp only [zE]
  refine aL rfl fun _ k0 => ?_
  refine ay (h := ak kL) rfl rfl (by first | exact rfl | (simp only [ev, zP, M, E]; exact rfl)) (by simp only [zV, acs, reduceCtorEq, M, E, O, Z, Y, V, Mdl.av, Mdl.cs]) ?_
  apply k0; clear k0; simp only [zP, E]
  (refine aa rfl fun _ k0 => ?_; simp only [zO, zT, acs, reduceCtorEq, M, E, O, Z, Y, V, Mdl.av, Mdl.cs]; (repeat refine an ?_); (try refine .inl ?_); apply k0; clear k0; simp only [zP, E])
  refine ad ?_
  refine ⟨by simp only [zP, M, E]; exact rfl, rfl, ?_, rfl⟩; (repeat refine ax rfl ?_); exact aM (by exact rfl) hq33
 case b33 => exact bj
 simp only [aJ, aC]
 (refine aa rfl fun _ k0 => ?_; simp only [zO, zT, acs, reduceCtorEq, M, E, O, Z, Y, V, Mdl.av, Mdl.cs]; (repeat refine an ?_); (try refine .inl ?_); apply k0; clear k0; simp only [zP, E])
 refine ad ?_
 apply k30; clear k30; refine kp [1, 2, 4, 7, 8, 9, 11, 12, 13, 14, 52] ?_
 refine ar ?_
 refine ⟨nr, _, rfl, ?_⟩; simp only [zF, zP, M, E, Mdl.av, Mdl.cs]
 refine VLE.of_eq ?_
 first
 | rfl
 | (rw [hpo1, fY]; rfl)
end Go.Proofs.YtmfkpljjhiglpaaDoor
