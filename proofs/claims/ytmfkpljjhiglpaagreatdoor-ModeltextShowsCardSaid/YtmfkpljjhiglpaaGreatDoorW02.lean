/- Contracts of functions of this seat, each out of a walk through its code, and plain facts on what they compute. Conditions: those that each theorem names. -/
import Derived.Test.YtmfkpljjhiglpaaGreatDoorW01
set_option linter.unusedSimpArgs false
set_option linter.unusedVariables false
set_option maxRecDepth 100000
namespace Go.Proofs.YtmfkpljjhiglpaaGreatDoor
open Go Go.AV
open Nat renaming reduceEqDiff → M, reduceAdd → E, reduceLeDiff → O, reduceLT → Z, reduceMul → Y, reduceSub → V
open List renaming set_cons_zero → bJ, set_cons_succ → be, getD_cons_zero → cI, length_append → ag, map_cons → aT, cons_append → ak, map_nil → bG, length_cons → ah, nil_append → ar, take_succ_cons → cf, length_nil → am, length_map → bV, length_replicate → aI, take_length → aG, mem_cons_self → aS, mem_cons_of_mem → aF
open Int renaming toNat_natCast → aJ
abbrev MyD := Int × (Int × (List (List Int) × (List (List Int) × Unit)))
abbrev MoD := List UInt8 × ((List (List UInt8) × Unit) × ((List (List UInt8) × Unit) × (MyD × Unit)))
def Xof (d : MoD) : Mdl := ⟨d.1, d.2.1.1, d.2.2.1.1, ⟨d.2.2.2.1.1, d.2.2.2.1.2.1, d.2.2.2.1.2.2.1, d.2.2.2.1.2.2.2.1⟩⟩
/- mdlTh -/
theorem mR  : bz Tryz.prog 15 [] (dU.av) := by
 refine aL Tryz.func15 rfl (by kernel_rfl) (Nat.le_of_ble_eq_true rfl) rfl fun C hP hN hB => ?_
 replace hN : C.N = 13 := hN
 simp only [aO, E]
 refine ab fun _ k1 => ?_
 refine af hP hN rfl ?_
 (refine aa rfl fun _ k0 => ?_; simp only [zO, zT, acs, reduceCtorEq, M, E, O, Z, Y, V, dU, Mdl.av, Mdl.cs]; (repeat refine an ?_); (try refine .inl ?_); apply k0; clear k0; simp only [zP, E])
 refine ad ?_
 apply k1; clear k1; refine kp [0] ?_
 refine ab fun _ k2 => ?_
 refine af hP hN rfl ?_
 iterate 13 (refine aa rfl fun _ k0 => ?_; simp only [zO, zT, acs, reduceCtorEq, M, E, O, Z, Y, V, dU, Mdl.av, Mdl.cs]; (repeat refine an ?_); (try refine .inl ?_); apply k0; clear k0; simp only [zP, E])
 refine ad ?_
 apply k2; clear k2; refine kp [0] ?_
 refine aq ?_
 refine ⟨nr, _, rfl, ?_⟩; simp only [zF, zP, M, E, dU, Mdl.av, Mdl.cs]
 refine VLE.of_eq ?_
 rfl
section
open Go.RowKit
def ITC (F : Fence) (n : Nat) (P : Program) (gf : Nat) (lb : Array Value) (encs : Nat → Array Value) (fin : Nat → Prop) (Bx : Nat → World → Prop) (stp : Nat → World → World) : Prop :=
  ∀ (l : Nat) (J JY Jx : Nat → World → Prop) (W : World), (∀ k W, J k W → Bx k W) → (∀ k W, JY k W → Bx k W) → (∀ k W, JY k W → J (k + 1) (stp k W)) →
    (∀ k W, J k W → ¬ fin k → YieldAt F (n - 1) P l (encs k) W fun e W' => (e = .returned (.bool true) ∧ JY k W') ∨ (e = .returned (.bool false) ∧ Jx k W')) → J 0 W →
    CallsIn F n P gf (#[.func (.yield l) #[] #[]] ++ lb) W fun e W' => (∃ v, e = .returned v) ∧ ((∃ k, fin k ∧ J k W') ∨ (∃ k, ¬ fin k ∧ Jx k W'))
def uv (D : Nat) (IY : Nat → World → Prop) (Ix : Code → Nat → World → Prop) (k : Nat) (W : World) : Go.Exit → Act → World → Prop
  | .normal, _, W' => (W'.heap[D]? = W.heap[D]? ∧ W'.heap[D + 1]? = W.heap[D + 1]?) ∧ IY k W'
  | .ret, _, W' => (W'.heap[D]? = W.heap[D]? ∧ W'.heap[D + 1]? = W.heap[D + 1]?) ∧ Ix .ret k W'
  | _, _, _ => False
theorem nQ {F : Fence} {n : Nat} {P : Program} {g : Operand} {ps : Array Tmp} {assign body : Code} {Q : Go.Exit → Act → World → Prop} {a : Act} {w : World}
    (hro : F.round = none) (h1 : 1 ≤ n) {gf : Nat} {lb : Array Value} (hg : a.eval g = .func (.func gf) #[] lb) (hFg : F.fn gf) (eg : ∀ args w, (callFunc gf args).run P w = .ok (.enter gf args) w)
    {encs : Nat → Array Value} {fin : Nat → Prop} {Bx : Nat → World → Prop} {stp : Nat → World → World} (hit : ITC F (n - 1) P gf lb encs fin Bx stp) (hps : ∀ k, (encs k).size = ps.size)
    (hstp : ∀ k W b, w.heap.size ≤ b → (stp k W).heap[b]? = W.heap[b]?)
    (I IY : Nat → World → Prop) (Ix : Code → Nat → World → Prop) (hIb : ∀ k W, I k W → Bx k W) (hYb : ∀ k W, IY k W → Bx k W) (hst : ∀ k W, IY k W → I (k + 1) (stp k W))
    (hIp : ∀ k W r, I k W → w.heap.size + 1 < W.heap.size → I k (W.putObj (w.heap.size + 1) (.loop r))) (hYp : ∀ k W r, IY k W → w.heap.size + 1 < W.heap.size → IY k (W.putObj (w.heap.size + 1) (.loop r))) (hXp : ∀ c k W r, Ix c k W → w.heap.size + 1 < W.heap.size → Ix c k (W.putObj (w.heap.size + 1) (.loop r)))
    (h0 : ∀ r, I 0 ((w.alloc (.deferred (some []))).alloc (.loop r))) (a₁ : Nat → Act)
    (hassign : ∀ (l : Nat) (k : Nat) (W : World) (K : Act → World → Prop), K (a₁ k) W →
      assign.wpIn (F.inRound l) (n - 1 - 1) P (Exit.then K (fun _ _ _ => False)) { tmps := (ps.zip (encs k)).foldl (fun t (p, v) => t.setIfInBounds p v) a.tmps, defers := [] } W)
    (hbody : ∀ (k : Nat) (W : World), I k W → ¬ fin k → body.wpIn (F.inRound (w.heap.size + 1)) (n - 1 - 1) P (uv w.heap.size IY Ix k W) (a₁ k) W)
    (hdone : ∀ (k : Nat) (W : World), fin k → I k W → W.heap[w.heap.size]? = some (.deferred (some [])) → Q .normal { a with defers := { target := .collected w.heap.size, args := #[] } :: a.defers } W)
    (hstop : ∀ (c : Code) (k : Nat) (W : World), ¬ fin k → Ix c k W → W.heap[w.heap.size]? = some (.deferred (some [])) → c.wpIn F n P Q { a with defers := { target := .collected w.heap.size, args := #[] } :: a.defers } W) :
    (Code.rangeFunc g ps assign body).wpIn F n P Q a w := by
  refine wpIn_rangeFunc ?_
  intro fn hfn
  rw [hro]
  obtain ⟨rec, hrec⟩ : ∃ rec : LoopState → Option Code → Loop, rec = fun st pe => { state := st, pending := pe, fn, tmps := a.tmps, params := ps, assign, body, defers := w.heap.size } := ⟨_, rfl⟩
  obtain ⟨W1, hW1⟩ : ∃ W1, (w.alloc (.deferred (some []))).alloc (.loop (rec .ready none)) = W1 := ⟨_, rfl⟩
  have hL1 : W1.heap[w.heap.size + 1]? = some (.loop (rec .ready none)) := by
    rw [← hW1]; have := World.alloc_heap_new (w.alloc (.deferred (some []))) (.loop (rec .ready none)); rwa [World.size_alloc] at this
  have k1 : W1.heap[w.heap.size]? = some (.deferred (some [])) := by
    rw [← hW1]; exact (Below.heap_alloc _ _ _ (by simp)).trans (World.alloc_heap_new w _)
  have hI1 : I 0 W1 := by rw [← hW1]; exact h0 _
  refine ⟨w.heap.size + 1, [{ target := .collected w.heap.size, args := #[] }], W1, { target := .fn (.func gf) lb, args := #[.func (.yield (w.heap.size + 1)) #[] #[]] }, W1, gf,
    #[.func (.yield (w.heap.size + 1)) #[] #[]] ++ lb, W1, ?_, ?_, ?_, ?_, fun _ => h1, ?_⟩
  · rw [← hW1, hrec]; exact run_enterLoop_outer _ _ _ _ _
  · simp only [resolve, hg]
    simp [go_sem]
  · intro f' hf'; simp [Target.leads] at hf'; subst hf'; exact hFg
  · simp [invoke, go_sem, eg]
  · refine (hit (w.heap.size + 1)
      (fun k W => I k W ∧ W.heap[w.heap.size + 1]? = some (.loop (rec .ready none)) ∧ W.heap[w.heap.size]? = some (.deferred (some [])))
      (fun k W => IY k W ∧ W.heap[w.heap.size + 1]? = some (.loop (rec .ready none)) ∧ W.heap[w.heap.size]? = some (.deferred (some [])))
      (fun k W => ∃ c, Ix c k W ∧ W.heap[w.heap.size + 1]? = some (.loop (rec .done (some c))) ∧ W.heap[w.heap.size]? = some (.deferred (some [])))
      W1 (fun k W h => hIb k W h.1) (fun k W h => hYb k W h.1) (fun k W h => ⟨hst k W h.1, (hstp k W _ (Nat.le_succ _)).trans h.2.1, (hstp k W _ (Nat.le_refl _)).trans h.2.2⟩) ?_ ⟨hI1, hL1, k1⟩).mono ?_
    · rintro k W ⟨hi, hl, hk⟩ hnf
      have hlt : w.heap.size + 1 < W.heap.size := (Array.getElem?_eq_some_iff.1 hl).1
      have hy := run_yield (P := P) (args := encs k) hl (by rw [hrec]; exact hps k)
      rw [hrec] at hy
      refine ⟨fn, _, assign, body, hy, roundIn_of_wpIn hfn (hassign _ k W _ ?_)⟩
      clear hy
      refine ⟨_, run_beginRound hl (by rw [hrec]), ?_⟩
      have hl2 : (W.putObj (w.heap.size + 1) (.loop { rec .ready none with state := .busy })).heap[w.heap.size + 1]? = some (.loop { rec .ready none with state := .busy }) := World.putObj_heap_same hlt
      have hk2 : (W.putObj (w.heap.size + 1) (.loop { rec .ready none with state := .busy })).heap[w.heap.size]? = some (.deferred (some [])) := (World.putObj_heap_other (by omega)).trans hk
      refine wpIn_mono (hbody k _ (hIp k W _ hi hlt) hnf) ?_
      have fin2 : ∀ (jump : Option Code) (W3 : World), (W3.heap[w.heap.size]? = (W.putObj (w.heap.size + 1) (.loop { rec .ready none with state := .busy })).heap[w.heap.size]? ∧ W3.heap[w.heap.size + 1]? = (W.putObj (w.heap.size + 1) (.loop { rec .ready none with state := .busy })).heap[w.heap.size + 1]?) →
          w.heap.size + 1 < W3.heap.size ∧
          (Instr.endRound (w.heap.size + 1) jump).run P W3 = .ok (.bool jump.isNone) (W3.putObj (w.heap.size + 1) (.loop (rec (if jump.isNone then .ready else .done) jump))) ∧
          (W3.putObj (w.heap.size + 1) (.loop (rec (if jump.isNone then .ready else .done) jump))).heap[w.heap.size + 1]? = some (.loop (rec (if jump.isNone then .ready else .done) jump)) ∧
          (W3.putObj (w.heap.size + 1) (.loop (rec (if jump.isNone then .ready else .done) jump))).heap[w.heap.size]? = some (.deferred (some [])) := fun jump W3 hk3 => by
        have hl3 := hk3.2.trans hl2
        have := run_endRound (P := P) jump hl3
        rw [hrec] at this ⊢
        have hlt3 := (Array.getElem?_eq_some_iff.1 hl3).1
        exact ⟨hlt3, this, World.putObj_heap_same hlt3, (World.putObj_heap_other (by omega)).trans (hk3.1.trans hk2)⟩
      rintro e a3 W3 hp
      cases e with
      | normal =>
        obtain ⟨hk3, hi3⟩ := hp
        obtain ⟨hlt3, hr, hl4, hk4⟩ := fin2 none W3 hk3
        exact ⟨_, _, hr, .inl ⟨rfl, hYp k W3 _ hi3 hlt3, hl4, hk4⟩⟩
      | ret =>
        obtain ⟨hk3, hi3⟩ := hp
        obtain ⟨hlt3, hr, hl4, hk4⟩ := fin2 (some .ret) W3 hk3
        exact ⟨_, _, hr, .inr ⟨rfl, .ret, hXp _ k W3 _ hi3 hlt3, hl4, hk4⟩⟩
      | exit id => exact hp.elim
      | goto t => exact hp.elim
      | panic ch => exact hp.elim
      | outgrown => exact hp.elim
    · rintro e W2 ⟨⟨v, rfl⟩, (⟨k, hf, hi, hl, hk⟩ | ⟨k, hf, c, hi, hl, hk⟩)⟩
      · have hlt := (Array.getElem?_eq_some_iff.1 hl).1
        exact ⟨none, _, by have := run_endLoop (P := P) hl (by rw [hrec]; simp); rw [hrec] at this; exact this, hdone k _ hf (hIp k W2 _ hi hlt) ((World.putObj_heap_other (by omega)).trans hk)⟩
      · have hlt := (Array.getElem?_eq_some_iff.1 hl).1
        exact ⟨some c, _, by have := run_endLoop (P := P) hl (by rw [hrec]; simp); rw [hrec] at this; exact this, hstop c k _ hf (hXp c k W2 _ hi hlt) ((World.putObj_heap_other (by omega)).trans hk)⟩
end
open Go.Shelf in
def Tryz.lays137_ren : Go.Shelf.Ren := ⟨fun | 137 => 46 | 217 => 61 | 266 => 81 | n => n, fun | 9 => 9 | 5 => 5 | 3 => 3 | n => n, fun | n => n⟩
theorem Tryz.lays137 : Go.Proofs.Lays.n137 Tryz.prog Tryz.lays137_ren := {
  mixed := by kernel_rfl,
  f137 := Tryz.func46.trans (congrArg some (by kernel_rfl)),
  f217 := Tryz.func61.trans (congrArg some (by kernel_rfl)),
  f266 := Tryz.func81.trans (congrArg some (by kernel_rfl)),
  t3 := Tryz.underlying3,
  a3 := Tryz.isAgg3,
  z3 := Tryz.sizeOf3,
  v3 := Tryz.zeroValue3,
  t5 := Tryz.underlying5,
  a5 := Tryz.isAgg5,
  z5 := Tryz.sizeOf5,
  v5 := Tryz.zeroValue5,
  t9 := Tryz.underlying9,
  a9 := Tryz.isAgg9,
  z9 := Tryz.sizeOf9,
  v9 := Tryz.zeroValue9 }
theorem tV (s : List UInt8) : bz Tryz.prog 46 [.one (.str s), .one (.int .u8 10)] (.one (.int .i64 (Lib.indexByte s 10))) := by
  refine ⟨⟨Tryz.f46, Tryz.func46, by kernel_rfl, by kernel_rfl⟩, fun C L σ w vs hP hi ha => ?_⟩
  match vs, ha with
  | [v1, v2], ⟨h1, h2, _⟩ =>
  have e1 : v1 = .string ⟨s.toArray⟩ := h1.2
  have e2 := h2.2
  subst e1
  simp only [RC0] at e2
  subst e2
  refine Calls.mono (Any.strings_IndexByte Tryz.lays137 ⟨s.toArray⟩ 10 w) fun e w' hh => ?_
  obtain ⟨e1, e2⟩ := hh
  subst e2
  exact ⟨_, e1, MORE.refl _, rfl, rfl⟩
section
open Go.RowKit Go.Shelf
attribute [local go_sem] Oper.semAt_some
set_option maxHeartbeats 2000000 in
theorem pj (n : Nat) (hn : 1 ≤ n) (s : Bs) (hs : s.length ≤ 1048576) (B : Nat) : ITC Fence.wide n Tryz.prog 45 #[.pointer (some ⟨B, 0, none⟩)] (fun k => #[.int .i64 ((k : Int) + 1), .string ⟨(bT s k).toArray⟩]) (fun k => aP s k = [])
    (fun k W => W.heap[B]? = some (.cells #[.string ⟨(aP s k).toArray⟩] 9 (0, 0))) (fun k W => W.setCell ⟨B, 0, none⟩ (.string ⟨(aP s (k + 1)).toArray⟩)) := by
  intro l J JY Jx W hJb hYb hst hY h0
  have w35 : Fence.wide.fn 46 := trivial
  refine callsIn_of_wp Tryz.func45 rfl trivial ?_ rfl
  simp only [Tryz.ntmps45, List.size_toArray, ah, am, E, V, Array.replicate_succ, Array.replicate_zero, List.push_toArray, List.append_toArray, ar, ak]
  gi_wp2
  gi_loopw [3] (fun i wr => ∃ k : Nat, i = .int .i64 ((k : Int) + 1) ∧ J k wr) (fun i _ => s.length + 2 - (intOf i).toNat)
  case atStart => exact ⟨0, rfl, h0⟩
  case round =>
    obtain ⟨k, rfl, hJ⟩ := hrel
    have hb := hJb _ _ hJ
    have hrl := oP s k
    have cB : wr.cell? ⟨B, 0, none⟩ = some (.string ⟨(aP s k).toArray⟩) := by simp [World.cell?, hb]
    by_cases he : aP s k = []
    · gi_wp2
      go_end0
      exact ⟨⟨_, rfl⟩, .inl ⟨k, he, hJ⟩⟩
    · have he2 : (!(aP s k).isEmpty) = true := by cases h : aP s k with
        | nil => exact absurd h he
        | cons _ _ => rfl
      have hix := callsIn_wide (n := n - 1).2 (show Calls Tryz.prog 46 #[.string ⟨(aP s k).toArray⟩, .int .u8 10] wr fun e w' => e = .returned (.int .i64 (Lib.indexByte (aP s k) 10)) ∧ w' = wr from Any.strings_IndexByte Tryz.lays137 ⟨(aP s k).toArray⟩ 10 wr)
      obtain ⟨fn, tmps, assign, body, hy, hR⟩ := hY k wr hJ he
      have hk2 := gS s k he
      by_cases hi : Lib.indexByte (aP s k) 10 < 0
      · have hi2 : Lib.indexByte (aP s k) 10 = -1 := by have := Lib.indexByte_ge (aP s k) 10; omega
        have hE : lnE (aP s k) = (aP s k).length := if_pos hi
        have hx1 : (⟨(aP s k).toArray⟩ : ByteArray).extract 0 (aP s k).length = ⟨(bT s k).toArray⟩ := by rw [qg]; unfold bT; rw [hE]
        have hx2 : (⟨(aP s k).toArray⟩ : ByteArray).extract (aP s k).length (aP s k).length = ⟨(aP s (k + 1)).toArray⟩ := by rw [o9]; show _ = (⟨((aP s k).drop (lnE (aP s k))).toArray⟩ : ByteArray); rw [hE]
        have hz : (⟨(aP s (k + 1)).toArray⟩ : ByteArray) = ByteArray.empty := by show (⟨((aP s k).drop (lnE (aP s k))).toArray⟩ : ByteArray) = _; rw [hE, List.drop_length]; rfl
        rw [hi2] at hix
        clear hi hi2 hE
        gi_wp2_with (gi_at_call 46; refine hix.mono ?_; rintro e w' ⟨rfl, hw⟩; rw [hw])
        refine hR.mono ?_
        rintro e W3 (⟨rfl, hJ3⟩ | ⟨rfl, hJx⟩)
        · have b3 := hYb _ _ hJ3
          have c3 : W3.cell? ⟨B, 0, none⟩ = some (.string ⟨(aP s k).toArray⟩) := by simp [World.cell?, b3]
          have f3 : W3.frozen? ⟨B, 0, none⟩ = false := by simp [World.frozen?, b3]
          have hJ4 := hst k W3 hJ3
          try rw [hz] at hJ4
          clear b3 hJ3
          gi_wp2
          go_roundw
          case rel => exact ⟨k + 1, by simp, hJ4⟩
          case measure => simp [intOf]; omega
        · gi_wp2
          refine bodyPost_ret (results_none rfl _ _ _) rfl ?_
          exact ⟨⟨_, rfl⟩, .inr ⟨k, he, hJx⟩⟩
      · have q1 := (ge (s := aP s k) (c := 10) (by omega)).1
        obtain ⟨i, hj, hi0, hE, hel⟩ : ∃ i : Int, Lib.indexByte (aP s k) 10 = i ∧ 0 ≤ i ∧ lnE (aP s k) = (i + 1).toNat ∧ i + 1 ≤ ((aP s k).length : Int) :=
          ⟨Lib.indexByte (aP s k) 10, rfl, by omega, by unfold lnE; rw [if_neg hi]; omega, by omega⟩
        have hx1 : (⟨(aP s k).toArray⟩ : ByteArray).extract 0 (i + 1).toNat = ⟨(bT s k).toArray⟩ := by rw [qg]; unfold bT; rw [hE]
        have hx2 : (⟨(aP s k).toArray⟩ : ByteArray).extract (i + 1).toNat (aP s k).length = ⟨(aP s (k + 1)).toArray⟩ := by rw [o9]; show _ = (⟨((aP s k).drop (lnE (aP s k))).toArray⟩ : ByteArray); rw [hE]
        rw [hj] at hix
        have hi1 : i ≤ 1048575 := by omega
        clear hi hj hE q1
        gi_wp2_with (gi_at_call 46; refine hix.mono ?_; rintro e w' ⟨rfl, hw⟩; rw [hw])
        refine hR.mono ?_
        rintro e W3 (⟨rfl, hJ3⟩ | ⟨rfl, hJx⟩)
        · have b3 := hYb _ _ hJ3
          have c3 : W3.cell? ⟨B, 0, none⟩ = some (.string ⟨(aP s k).toArray⟩) := by simp [World.cell?, b3]
          have f3 : W3.frozen? ⟨B, 0, none⟩ = false := by simp [World.frozen?, b3]
          have hJ4 := hst k W3 hJ3
          try rw [hz] at hJ4
          clear b3 hJ3
          gi_wp2
          go_roundw
          case rel => exact ⟨k + 1, by simp, hJ4⟩
          case measure => simp [intOf]; omega
        · gi_wp2
          refine bodyPost_ret (results_none rfl _ _ _) rfl ?_
          exact ⟨⟨_, rfl⟩, .inr ⟨k, he, hJx⟩⟩
theorem tM (n : Nat) (x : ByteArray) (w : World) :
    CallsIn Fence.wide n Tryz.prog 28 #[.string x] w fun e w' => e = .returned (.func (.func 45) #[] #[.pointer (some ⟨w.heap.size, 0, none⟩)]) ∧ w' = w.alloc (.cells #[.string x] 9) := by
  refine callsIn_of_wp Tryz.func28 rfl trivial ?_ rfl
  simp only [Tryz.ntmps28, List.size_toArray, ah, am, E, V, Array.replicate_succ, Array.replicate_zero, List.push_toArray, List.append_toArray, ar, ak]
  gi_wp2
  go_ret
  exact ⟨rfl, rfl⟩
end
theorem ru (s p : Bs) (hs : s.length ≤ 9223372036854775807) : bz Tryz.prog 82 [.one (.str s), .one (.str p)] (.one (.bool (dn s p))) := by
 refine aL Tryz.func82 rfl (by kernel_rfl) (Nat.le_of_ble_eq_true rfl) rfl fun C hP hN hB => ?_
 replace hN : C.N = 21 := hN
 simp only [aO, E]
 refine ab fun _ k1 => ?_
 refine af hP hN rfl ?_
 (refine aa rfl fun _ k0 => ?_; simp only [zO, zT, acs, reduceCtorEq, M, E, O, Z, Y, V]; (repeat refine an ?_); (try refine .inl ?_); apply k0; clear k0; simp only [zP, E])
 refine ad ?_
 apply k1; clear k1; refine kp [0, 1, 4] ?_
 refine ab fun _ k2 => ?_
 refine af hP hN rfl ?_
 iterate 6 (refine aa rfl fun _ k0 => ?_; simp only [zO, zT, acs, reduceCtorEq, M, E, O, Z, Y, V]; (repeat refine an ?_); (try refine .inl ?_); apply k0; clear k0; simp only [zP, E])
 refine' ay (want := true) 9 rfl (m := 10) (by simp only [zP, M, E]; exact rfl) (by kernel_rfl) rfl rfl rfl rfl rfl (fun hg3 => ?a3) ?b3 ?c3
 case a3 =>
  have hq3 := hg3; (try simp only [zB, reduceCtorEq] at hg3); simp only [zE]
  iterate 6 (refine aN rfl fun _ k0 => ?_; simp only [zO, zT, acs, reduceCtorEq, M, E, O, Z, Y, V]; (repeat refine an ?_); (try refine .inl ?_); apply k0; clear k0; simp only [zP, E])
  (refine aN rfl fun _ k0 => ?_; simp only [zE, op1, ev, lkp, cT, bq, cg, bnd, Ty.size, reduceCtorEq, M, E, O, Z, Y, V, Tryz.td9]; (repeat refine an ?_); (try refine .inl ?_); apply k0; clear k0; simp only [zP, E])
  iterate 2 (refine aN rfl fun _ k0 => ?_; simp only [zO, zT, acs, reduceCtorEq, M, E, O, Z, Y, V]; (repeat refine an ?_); (try refine .inl ?_); apply k0; clear k0; simp only [zP, E])
  (refine aa rfl fun _ k0 => ?_; simp only [zO, zT, acs, reduceCtorEq, M, E, O, Z, Y, V]; (repeat refine an ?_); (try refine .inl ?_); apply k0; clear k0; simp only [zP, E])
  refine ad ?_
  refine ⟨by simp only [zP, M, E]; exact rfl, rfl, ?_, rfl⟩; (repeat refine ax rfl ?_); exact aM (by exact rfl) hq3
 case b3 => exact bb
 simp only [aC, aA]
 (refine aa rfl fun _ k0 => ?_; simp only [zO, zT, acs, reduceCtorEq, M, E, O, Z, Y, V]; (repeat refine an ?_); (try refine .inl ?_); apply k0; clear k0; simp only [zP, E])
 refine ad ?_
 apply k2; clear k2; refine kp [0, 1, 4] ?_
 refine aq ?_
 refine ⟨nr, _, rfl, ?_⟩; simp only [zF, zP, M, E]
 refine VLE.of_eq ?_
 have e : decide ((p.length : Int) ≤ s.length) = decide (p.length ≤ s.length) := decide_eq_decide.2 Int.ofNat_le
 rw [e, aG, Int.toNat_sub]; rfl
theorem px (s p : Bs) (hs : s.length ≤ 9223372036854775807) : bz Tryz.prog 62 [.one (.str s), .one (.str p)] (.tup [.one (.str (if dn s p = true then s.take (s.length - p.length) else s)), .one (.bool (dn s p))]) := by
 refine aL Tryz.func62 rfl (by kernel_rfl) (Nat.le_of_ble_eq_true rfl) rfl fun C hP hN hB => ?_
 replace hN : C.N = 18 := hN
 simp only [aO, E]
 refine ab fun _ k1 => ?_
 refine af hP hN rfl ?_
 iterate 2 (refine aa rfl fun _ k0 => ?_; simp only [zO, zT, acs, reduceCtorEq, M, E, O, Z, Y, V]; (repeat refine an ?_); (try refine .inl ?_); apply k0; clear k0; simp only [zP, E])
 refine ad ?_
 apply k1; clear k1; refine kp [0, 1, 4, 5] ?_
 refine ab fun _ k2 => ?_
 refine ab fun _ k3 => ?_
 refine af hP hN rfl ?_
 iterate 2 (refine aa rfl fun _ k0 => ?_; simp only [zO, zT, acs, reduceCtorEq, M, E, O, Z, Y, V]; (repeat refine an ?_); (try refine .inl ?_); apply k0; clear k0; simp only [zP, E])
 refine aa rfl fun _ k0 => ?_
 refine az (h := aj (ru s p hs)) rfl rfl (by first | exact rfl | (simp only [ev, zP, M, E]; exact rfl)) (by simp only [zV, acs, reduceCtorEq, M, E, O, Z, Y, V]) ?_
 apply k0; clear k0; simp only [zP, E]
 (refine aa rfl fun _ k0 => ?_; simp only [zO, zT, acs, reduceCtorEq, M, E, O, Z, Y, V]; (repeat refine an ?_); (try refine .inl ?_); apply k0; clear k0; simp only [zP, E])
 refine ad ?_
 apply k3; clear k3; refine kp [0, 1, 4, 5, 9] ?_
 refine cd (fun hc4 => ?_) (fun hc4 => ?_)
 ·(try simp only [zB, reduceCtorEq] at hc4)
  have hsf : dn s p = false := by simpa using hc4
  refine ab fun _ k5 => ?_
  refine af hP hN rfl ?_
  iterate 3 (refine aa rfl fun _ k0 => ?_; simp only [zO, zT, acs, reduceCtorEq, M, E, O, Z, Y, V]; (repeat refine an ?_); (try refine .inl ?_); apply k0; clear k0; simp only [zP, E])
  refine ad ?_
  apply k5; clear k5; refine kp [0, 1, 4, 5, 9] ?_
  refine aq ?_
  refine ⟨nr, _, rfl, ?_⟩; simp only [zF, zP, M, E]
  refine VLE.of_eq ?_
  simp only [hsf, if_true, List.drop_zero, Int.toNat_sub, Int.toNat_zero, Bool.false_eq_true, if_false]
 (try simp only [zB, reduceCtorEq] at hc4)
 have hsf : dn s p = true := by simpa using hc4
 have hle : p.length ≤ s.length := by unfold dn at hsf; simp only [Bool.and_eq_true, decide_eq_true_eq] at hsf; exact hsf.1
 refine au ?_
 apply k2; clear k2; refine kp [0, 1, 4, 5, 9] ?_
 refine ab fun _ k6 => ?_
 refine af hP hN rfl ?_
 iterate 6 (refine aa rfl fun _ k0 => ?_; simp only [zO, zT, acs, reduceCtorEq, M, E, O, Z, Y, V]; (repeat refine an ?_); (try refine .inl ?_); apply k0; clear k0; simp only [zP, E])
 (refine aa rfl fun _ k0 => ?_; simp only [zE, op1, ev, lkp, cT, bq, cZ, kb, jh, cb, cS, fV, Nat.div_one, dE, d7, Ty.size, ba, dite_true, dT, bC, cP, di, cv, dt, cg, bnd, reduceCtorEq, M, E, O, Z, Y, V, Tryz.td3, Tryz.td4, Tryz.td9]; (repeat refine an ?_); (try refine .inl ?_); apply k0; clear k0; simp only [zP, E])
 iterate 2 (refine aa rfl fun _ k0 => ?_; simp only [zO, zT, acs, reduceCtorEq, M, E, O, Z, Y, V]; (repeat refine an ?_); (try refine .inl ?_); apply k0; clear k0; simp only [zP, E])
 refine ad ?_
 apply k6; clear k6; refine kp [0, 1, 4, 5, 9] ?_
 refine aq ?_
 refine ⟨nr, _, rfl, ?_⟩; simp only [zF, zP, M, E]
 refine VLE.of_eq ?_
 simp only [hsf, if_true, List.drop_zero, Int.toNat_sub, Int.toNat_zero, Bool.false_eq_true, if_false]
theorem qK (s p : Bs) (hs : s.length ≤ 9223372036854775807) : bz Tryz.prog 47 [.one (.str s), .one (.str p)] (.tup [.one (.str (if dn s p = true then s.take (s.length - p.length) else s)), .one (.bool (dn s p))]) := by
 refine aL Tryz.func47 rfl (by kernel_rfl) (Nat.le_of_ble_eq_true rfl) rfl fun C hP hN hB => ?_
 replace hN : C.N = 11 := hN
 simp only [aO, E]
 refine ab fun _ k1 => ?_
 refine af hP hN rfl ?_
 iterate 2 (refine aa rfl fun _ k0 => ?_; simp only [zO, zT, acs, reduceCtorEq, M, E, O, Z, Y, V]; (repeat refine an ?_); (try refine .inl ?_); apply k0; clear k0; simp only [zP, E])
 refine ad ?_
 apply k1; clear k1; refine kp [0, 1, 4, 5] ?_
 refine ab fun _ k2 => ?_
 refine af hP hN rfl ?_
 iterate 2 (refine aa rfl fun _ k0 => ?_; simp only [zO, zT, acs, reduceCtorEq, M, E, O, Z, Y, V]; (repeat refine an ?_); (try refine .inl ?_); apply k0; clear k0; simp only [zP, E])
 refine aa rfl fun _ k0 => ?_
 refine az (h := aj (px s p hs)) rfl rfl (by first | exact rfl | (simp only [ev, zP, M, E]; exact rfl)) (by simp only [zV, acs, reduceCtorEq, M, E, O, Z, Y, V]) ?_
 apply k0; clear k0; simp only [zP, E]
 iterate 4 (refine aa rfl fun _ k0 => ?_; simp only [zO, zT, acs, reduceCtorEq, M, E, O, Z, Y, V]; (repeat refine an ?_); (try refine .inl ?_); apply k0; clear k0; simp only [zP, E])
 refine ad ?_
 apply k2; clear k2; refine kp [0, 1, 4, 5] ?_
 refine aq ?_
 refine ⟨nr, _, rfl, ?_⟩; simp only [zF, zP, M, E]
 refine VLE.of_eq ?_
 rfl
theorem kD (s : Bs) : bz Tryz.prog 20 [.one (.str s)] (.one (.bool (aY s))) := by
 refine aL Tryz.func20 rfl (by kernel_rfl) (Nat.le_of_ble_eq_true rfl) rfl fun C hP hN hB => ?_
 replace hN : C.N = 55 := hN
 simp only [aO, E]
 refine ab fun _ k1 => ?_
 refine af hP hN rfl ?_
 (refine aa rfl fun _ k0 => ?_; simp only [zO, zT, acs, reduceCtorEq, M, E, O, Z, Y, V]; (repeat refine an ?_); (try refine .inl ?_); apply k0; clear k0; simp only [zP, E])
 refine ad ?_
 apply k1; clear k1; refine kp [0, 2] ?_
 refine ab fun _ k2 => ?_
 refine ab fun _ k3 => ?_
 refine af hP hN rfl ?_
 (refine aa rfl fun _ k0 => ?_; simp only [zO, zT, acs, reduceCtorEq, M, E, O, Z, Y, V]; (repeat refine an ?_); (try refine .inl ?_); apply k0; clear k0; simp only [zP, E])
 (refine aa rfl fun _ k0 => ?_; simp only [zE, op1, ev, lkp, cT, bq, lm, reduceCtorEq, M, E, O, Z, Y, V, Tryz.td9]; (repeat refine an ?_); (try refine .inl ?_); apply k0; clear k0; simp only [zP, E])
 refine ad ?_
 apply k3; clear k3; refine kp [0, 2, 7] ?_
 refine aw ?_
 refine aU (fun n4 s4 => ∃ (k : Nat), (k ≤ s.length) ∧ (∀ j, j < k → okI (bt s j)) ∧ n4 = s.length - k ∧ s4 = { env := [(0, .one (.str s)), (2, .one (.bool false)), (7, .one (.ptr 0 0 0 0))], L := [.itr s k] }) ?_ ?_
 ·exact ⟨_, _, aB [0, 2, 7], 0, Nat.zero_le _, fun q hq => by omega, rfl, rfl⟩
 rintro n4 s4 ⟨k, hk, hI, rfl, rfl⟩
 refine ab fun _ k5 => ?_
 refine af hP hN rfl ?_
 (refine aa rfl fun _ k0 => ?_; simp only [zE, op1, ev, lkp, cT, bq, ny, eE, reduceCtorEq, M, E, O, Z, Y, V, Tryz.td4]; (repeat refine an ?_); (try refine .inl ?_); apply k0; clear k0; simp only [zP, E])
 (refine aa rfl fun _ k0 => ?_; simp only [zO, zT, acs, reduceCtorEq, M, E, O, Z, Y, V]; (repeat refine an ?_); (try refine .inl ?_); apply k0; clear k0; simp only [zP, E])
 refine ad ?_
 apply k5; clear k5; refine kp [0, 2, 7, 8, 9] ?_
 refine ab fun _ k6 => ?_
 refine cd (fun hc7 => ?_) (fun hc7 => ?_)
 ·(try simp only [zB, reduceCtorEq] at hc7)
  have hpos : k < s.length := hc7
  refine au ?_
  apply k6; clear k6; refine kp [0, 2, 7, 8, 9] ?_
  refine aw ?_
  refine ab fun _ k8 => ?_
  refine af hP hN rfl ?_
  iterate 2 (refine aa rfl fun _ k0 => ?_; simp only [zO, zT, acs, reduceCtorEq, M, E, O, Z, Y, V, lU, hpos, if_true]; (repeat refine an ?_); (try refine .inl ?_); apply k0; clear k0; simp only [zP, E])
  refine ad ?_
  apply k8; clear k8; refine kp [0, 2, 4, 7, 8, 9] ?_
  refine ab fun _ k9 => ?_
  refine af hP hN rfl ?_
  iterate 3 (refine aa rfl fun _ k0 => ?_; simp only [zO, zT, acs, reduceCtorEq, M, E, O, Z, Y, V]; (repeat refine an ?_); (try refine .inl ?_); apply k0; clear k0; simp only [zP, E])
  refine' ay (want := true) 2 rfl (m := 13) (by simp only [zP, M, E]; exact rfl) (by kernel_rfl) rfl rfl rfl rfl rfl (fun hg10 => ?a10) ?b10 ?c10
  case a10 =>
   have hq10 := hg10; (try simp only [zB, reduceCtorEq] at hg10); simp only [zE]
   iterate 2 (refine aN rfl fun _ k0 => ?_; simp only [zO, zT, acs, reduceCtorEq, M, E, O, Z, Y, V]; (repeat refine an ?_); (try refine .inl ?_); apply k0; clear k0; simp only [zP, E])
   (refine aa rfl fun _ k0 => ?_; simp only [zO, zT, acs, reduceCtorEq, M, E, O, Z, Y, V]; (repeat refine an ?_); (try refine .inl ?_); apply k0; clear k0; simp only [zP, E])
   refine ad ?_
   refine ⟨by simp only [zP, M, E]; exact rfl, rfl, ?_, rfl⟩; (repeat refine ax rfl ?_); exact aM (by exact rfl) hq10
  case b10 => exact bb
  simp only [aC, aA]
  (refine aa rfl fun _ k0 => ?_; simp only [zO, zT, acs, reduceCtorEq, M, E, O, Z, Y, V]; (repeat refine an ?_); (try refine .inl ?_); apply k0; clear k0; simp only [zP, E])
  refine' ay (want := false) 6 rfl (m := 17) (by simp only [zP, M, E]; exact rfl) (by kernel_rfl) rfl rfl rfl rfl rfl (fun hg11 => ?a11) ?b11 ?c11
  case a11 =>
   have hq11 := hg11; (try simp only [zB, reduceCtorEq] at hg11); simp only [zE]
   iterate 3 (refine aN rfl fun _ k0 => ?_; simp only [zO, zT, acs, reduceCtorEq, M, E, O, Z, Y, V]; (repeat refine an ?_); (try refine .inl ?_); apply k0; clear k0; simp only [zP, E])
   refine' ay (want := true) 2 rfl (m := 20) (by simp only [zP, M, E]; exact rfl) (by kernel_rfl) rfl rfl rfl rfl rfl (fun hg12 => ?a12) ?b12 ?c12
   case a12 =>
    have hq12 := hg12; (try simp only [zB, reduceCtorEq] at hg12); simp only [zE]
    iterate 3 (refine aN rfl fun _ k0 => ?_; simp only [zO, zT, acs, reduceCtorEq, M, E, O, Z, Y, V]; (repeat refine an ?_); (try refine .inl ?_); apply k0; clear k0; simp only [zP, E])
    refine ad ?_
    refine ⟨by simp only [zP, M, E]; exact rfl, rfl, ?_, rfl⟩; (repeat refine ax rfl ?_); exact aM (by exact rfl) hq12
   case b12 => exact bb
   simp only [aC, aA]
   (refine aa rfl fun _ k0 => ?_; simp only [zO, zT, acs, reduceCtorEq, M, E, O, Z, Y, V]; (repeat refine an ?_); (try refine .inl ?_); apply k0; clear k0; simp only [zP, E])
   refine ad ?_
   refine ⟨by simp only [zP, M, E]; exact rfl, rfl, ?_, rfl⟩; (repeat refine ax rfl ?_); exact aM (by exact rfl) hq11
  case b11 => exact bb
  simp only [aC, aA]
  (refine aa rfl fun _ k0 => ?_; simp only [zO, zT, acs, reduceCtorEq, M, E, O, Z, Y, V]; (repeat refine an ?_); (try refine .inl ?_); apply k0; clear k0; simp only [zP, E])
  refine' ay (want := false) 6 rfl (m := 25) (by simp only [zP, M, E]; exact rfl) (by kernel_rfl) rfl rfl rfl rfl rfl (fun hg13 => ?a13) ?b13 ?c13
  case a13 =>
   have hq13 := hg13; (try simp only [zB, reduceCtorEq] at hg13); simp only [zE]
   iterate 3 (refine aN rfl fun _ k0 => ?_; simp only [zO, zT, acs, reduceCtorEq, M, E, O, Z, Y, V]; (repeat refine an ?_); (try refine .inl ?_); apply k0; clear k0; simp only [zP, E])
   refine' ay (want := true) 2 rfl (m := 28) (by simp only [zP, M, E]; exact rfl) (by kernel_rfl) rfl rfl rfl rfl rfl (fun hg14 => ?a14) ?b14 ?c14
   case a14 =>
    have hq14 := hg14; (try simp only [zB, reduceCtorEq] at hg14); simp only [zE]
    iterate 3 (refine aN rfl fun _ k0 => ?_; simp only [zO, zT, acs, reduceCtorEq, M, E, O, Z, Y, V]; (repeat refine an ?_); (try refine .inl ?_); apply k0; clear k0; simp only [zP, E])
    refine ad ?_
    refine ⟨by simp only [zP, M, E]; exact rfl, rfl, ?_, rfl⟩; (repeat refine ax rfl ?_); exact aM (by exact rfl) hq14
   case b14 => exact bb
   simp only [aC, aA]
   (refine aa rfl fun _ k0 => ?_; simp only [zO, zT, acs, reduceCtorEq, M, E, O, Z, Y, V]; (repeat refine an ?_); (try refine .inl ?_); apply k0; clear k0; simp only [zP, E])
   refine ad ?_
   refine ⟨by simp only [zP, M, E]; exact rfl, rfl, ?_, rfl⟩; (repeat refine ax rfl ?_); exact aM (by exact rfl) hq13
  case b13 => exact bb
  simp only [aC, aA]
  (refine aa rfl fun _ k0 => ?_; simp only [zO, zT, acs, reduceCtorEq, M, E, O, Z, Y, V]; (repeat refine an ?_); (try refine .inl ?_); apply k0; clear k0; simp only [zP, E])
  refine ad ?_
  apply k9; clear k9; refine kp [0, 2, 4, 5, 7, 8, 9] ?_
  refine ab fun _ k15 => ?_
  refine af hP hN rfl ?_
  iterate 3 (refine aa rfl fun _ k0 => ?_; simp only [zO, zT, acs, reduceCtorEq, M, E, O, Z, Y, V]; (repeat refine an ?_); (try refine .inl ?_); apply k0; clear k0; simp only [zP, E])
  refine' ay (want := true) 2 rfl (m := 35) (by simp only [zP, M, E]; exact rfl) (by kernel_rfl) rfl rfl rfl rfl rfl (fun hg16 => ?a16) ?b16 ?c16
  case a16 =>
   have hq16 := hg16; (try simp only [zB, reduceCtorEq] at hg16); simp only [zE]
   iterate 2 (refine aN rfl fun _ k0 => ?_; simp only [zO, zT, acs, reduceCtorEq, M, E, O, Z, Y, V]; (repeat refine an ?_); (try refine .inl ?_); apply k0; clear k0; simp only [zP, E])
   (refine aa rfl fun _ k0 => ?_; simp only [zO, zT, acs, reduceCtorEq, M, E, O, Z, Y, V]; (repeat refine an ?_); (try refine .inl ?_); apply k0; clear k0; simp only [zP, E])
   refine ad ?_
   refine ⟨by simp only [zP, M, E]; exact rfl, rfl, ?_, rfl⟩; (repeat refine ax rfl ?_); exact aM (by exact rfl) hq16
  case b16 => exact bb
  simp only [aC, aA]
  (refine aa rfl fun _ k0 => ?_; simp only [zO, zT, acs, reduceCtorEq, M, E, O, Z, Y, V]; (repeat refine an ?_); (try refine .inl ?_); apply k0; clear k0; simp only [zP, E])
  refine' ay (want := true) 2 rfl (m := 39) (by simp only [zP, M, E]; exact rfl) (by kernel_rfl) rfl rfl rfl rfl rfl (fun hg17 => ?a17) ?b17 ?c17
  case a17 =>
   have hq17 := hg17; (try simp only [zB, reduceCtorEq] at hg17); simp only [zE]
   iterate 2 (refine aN rfl fun _ k0 => ?_; simp only [zO, zT, acs, reduceCtorEq, M, E, O, Z, Y, V]; (repeat refine an ?_); (try refine .inl ?_); apply k0; clear k0; simp only [zP, E])
   (refine aa rfl fun _ k0 => ?_; simp only [zO, zT, acs, reduceCtorEq, M, E, O, Z, Y, V]; (repeat refine an ?_); (try refine .inl ?_); apply k0; clear k0; simp only [zP, E])
   refine ad ?_
   refine ⟨by simp only [zP, M, E]; exact rfl, rfl, ?_, rfl⟩; (repeat refine ax rfl ?_); exact aM (by exact rfl) hq17
  case b17 => exact bb
  simp only [aC, aA]
  (refine aa rfl fun _ k0 => ?_; simp only [zO, zT, acs, reduceCtorEq, M, E, O, Z, Y, V]; (repeat refine an ?_); (try refine .inl ?_); apply k0; clear k0; simp only [zP, E])
  refine' ay (want := true) 2 rfl (m := 43) (by simp only [zP, M, E]; exact rfl) (by kernel_rfl) rfl rfl rfl rfl rfl (fun hg18 => ?a18) ?b18 ?c18
  case a18 =>
   have hq18 := hg18; (try simp only [zB, reduceCtorEq] at hg18); simp only [zE]
   iterate 2 (refine aN rfl fun _ k0 => ?_; simp only [zO, zT, acs, reduceCtorEq, M, E, O, Z, Y, V]; (repeat refine an ?_); (try refine .inl ?_); apply k0; clear k0; simp only [zP, E])
   (refine aa rfl fun _ k0 => ?_; simp only [zO, zT, acs, reduceCtorEq, M, E, O, Z, Y, V]; (repeat refine an ?_); (try refine .inl ?_); apply k0; clear k0; simp only [zP, E])
   refine ad ?_
   refine ⟨by simp only [zP, M, E]; exact rfl, rfl, ?_, rfl⟩; (repeat refine ax rfl ?_); exact aM (by exact rfl) hq18
  case b18 => exact bb
  simp only [aC, aA]
  refine ad ?_
  apply k15; clear k15; refine kp [0, 2, 4, 5, 7, 8, 9, 46] ?_
  refine cd (fun hc19 => ?_) (fun hc19 => ?_)
  ·(try simp only [zB, reduceCtorEq] at hc19)
   have ho : ¬ okI (((dec s k).1 : Nat) : Int) := by unfold okI; omega
   refine ab fun _ k20 => ?_
   refine af hP hN rfl ?_
   (refine aa rfl fun _ k0 => ?_; simp only [zO, zT, acs, reduceCtorEq, M, E, O, Z, Y, V]; (repeat refine an ?_); (try refine .inl ?_); apply k0; clear k0; simp only [zP, E])
   refine ad ?_
   apply k20; clear k20; refine kp [0, 2, 4, 5, 7, 8, 9, 46] ?_
   refine aq ?_
   refine ⟨nr, _, rfl, ?_⟩; simp only [zF, zP, M, E]
   refine VLE.of_eq ?_
   refine congrArg (fun b => AV.one (AC.bool b)) ?_
   symm
   first
   | exact gE hpos (qp ho)
   | exact gN fun j hj => hI j (by omega)
  (try simp only [zB, reduceCtorEq] at hc19)
  have ho : okI (((dec s k).1 : Nat) : Int) := by unfold okI; omega
  refine au ?_
  have hd := tq ho
  have hn : i6 s k = k + 1 := by unfold i6; rw [if_pos hpos, hd.2]
  refine ⟨_, _, ?_, aB [0, 2, 7], i6 s k, by omega, fun j hj => ?_, rfl, rfl⟩
  · omega
  · by_cases e : j = k
    · rw [e]; exact hd.1
    · exact hI j (by omega)
 (try simp only [zB, reduceCtorEq] at hc7)
 refine aW ?_
 apply k2; clear k2; refine kp [0, 2, 7, 8, 9] ?_
 refine ab fun _ k21 => ?_
 refine af hP hN rfl ?_
 iterate 4 (refine aa rfl fun _ k0 => ?_; simp only [zO, zT, acs, reduceCtorEq, M, E, O, Z, Y, V]; (repeat refine an ?_); (try refine .inl ?_); apply k0; clear k0; simp only [zP, E])
 refine' ay (want := true) 3 rfl (m := 50) (by simp only [zP, M, E]; exact rfl) (by kernel_rfl) rfl rfl rfl rfl rfl (fun hg22 => ?a22) ?b22 ?c22
 case a22 =>
  have hq22 := hg22; (try simp only [zB, reduceCtorEq] at hg22); simp only [zE]
  iterate 3 (refine aN rfl fun _ k0 => ?_; simp only [zO, zT, acs, reduceCtorEq, M, E, O, Z, Y, V]; (repeat refine an ?_); (try refine .inl ?_); apply k0; clear k0; simp only [zP, E])
  (refine aa rfl fun _ k0 => ?_; simp only [zO, zT, acs, reduceCtorEq, M, E, O, Z, Y, V]; (repeat refine an ?_); (try refine .inl ?_); apply k0; clear k0; simp only [zP, E])
  refine ad ?_
  refine ⟨by simp only [zP, M, E]; exact rfl, rfl, ?_, rfl⟩; (repeat refine ax rfl ?_); exact aM (by exact rfl) hq22
 case b22 => exact bb
 simp only [aC, aA]
 (refine aa rfl fun _ k0 => ?_; simp only [zO, zT, acs, reduceCtorEq, M, E, O, Z, Y, V]; (repeat refine an ?_); (try refine .inl ?_); apply k0; clear k0; simp only [zP, E])
 refine ad ?_
 apply k21; clear k21; refine kp [0, 2, 7, 8, 9] ?_
 refine aq ?_
 refine ⟨nr, _, rfl, ?_⟩; simp only [zF, zP, M, E]
 refine VLE.of_eq ?_
 refine congrArg (fun b => AV.one (AC.bool b)) ?_
 symm
 first
 | exact gE hpos (qp ho)
 | exact gN fun j hj => hI j (by omega)
theorem fc (xs : List Bs) (x : Bs) : bz Tryz.prog 58 [.one (.list .str xs), .one (.str x)] (.one (.int .i64 (if x ∈ xs then (pos xs x : Int) else -1))) := by
 refine aL Tryz.func58 rfl (by kernel_rfl) (Nat.le_of_ble_eq_true rfl) rfl fun C hP hN hB => ?_
 replace hN : C.N = 19 := hN
 simp only [aO, E]
 refine eW 0 rfl fun hf0 => ?_; simp only [lkp, if_true, if_false, reduceCtorEq, M, eq_self, Nat.one_ne_zero, Nat.zero_ne_one, jO, iw, j8, Fit, and_true, implies_true, true_and] at hf0
 refine ab fun _ k1 => ?_
 refine af hP hN rfl ?_
 (refine aa rfl fun _ k0 => ?_; simp only [zO, zT, acs, reduceCtorEq, M, E, O, Z, Y, V]; (repeat refine an ?_); (try refine .inl ?_); apply k0; clear k0; simp only [zP, E])
 refine ad ?_
 apply k1; clear k1; refine kp [0, 1, 4] ?_
 refine ab fun _ k2 => ?_
 refine ab fun _ k3 => ?_
 refine af hP hN rfl ?_
 iterate 3 (refine aa rfl fun _ k0 => ?_; simp only [zO, zT, acs, reduceCtorEq, M, E, O, Z, Y, V]; (repeat refine an ?_); (try refine .inl ?_); apply k0; clear k0; simp only [zP, E])
 refine ad ?_
 apply k3; clear k3; refine kp [0, 1, 4, 7, 8] ?_
 refine aw ?_
 refine aU (fun n4 s4 => ∃ (k : Nat), (k ≤ xs.length) ∧ (∀ q, q < k → xs.getD q [] ≠ x) ∧ n4 = xs.length - k ∧ s4 = { env := [(0, .one (.list .str xs)), (1, .one (.str x)), (4, .one (.int .i64 0)), (7, .one (.int .i64 (xs.length : Int))), (8, .one (.int .i64 (k : Int)))], L := [] }) ?_ ?_
 ·exact ⟨_, _, aB [0, 1, 4, 7, 8], 0, Nat.zero_le _, fun q hq => by omega, rfl, rfl⟩
 rintro n4 s4 ⟨k, hk, hq, rfl, rfl⟩
 refine ab fun _ k5 => ?_
 refine af hP hN rfl ?_
 (refine aa rfl fun _ k0 => ?_; simp only [zO, zT, acs, reduceCtorEq, M, E, O, Z, Y, V]; (repeat refine an ?_); (try refine .inl ?_); apply k0; clear k0; simp only [zP, E])
 refine ad ?_
 apply k5; clear k5; refine kp [0, 1, 4, 7, 8, 9] ?_
 refine ab fun _ k6 => ?_
 refine cd (fun hc7 => ?_) (fun hc7 => ?_)
 ·(try simp only [zB, reduceCtorEq] at hc7)
  refine au ?_
  apply k6; clear k6; refine kp [0, 1, 4, 7, 8, 9] ?_
  refine ab fun _ k8 => ?_
  refine aw ?_
  refine ab fun _ k9 => ?_
  refine af hP hN rfl ?_
  iterate 2 (refine aa rfl fun _ k0 => ?_; simp only [zO, zT, acs, reduceCtorEq, M, E, O, Z, Y, V]; (repeat refine an ?_); (try refine .inl ?_); apply k0; clear k0; simp only [zP, E])
  refine ad ?_
  apply k9; clear k9; refine kp [0, 1, 4, 5, 7, 8, 9] ?_
  refine ab fun _ k10 => ?_
  refine af hP hN rfl ?_
  iterate 6 (refine aa rfl fun _ k0 => ?_; simp only [zO, zT, acs, reduceCtorEq, M, E, O, Z, Y, V]; (repeat refine an ?_); (try refine .inl ?_); apply k0; clear k0; simp only [zP, E])
  refine ad ?_
  apply k10; clear k10; refine kp [0, 1, 4, 5, 7, 8, 9, 16] ?_
  refine cd (fun hc11 => ?_) (fun hc11 => ?_)
  ·(try simp only [zB, reduceCtorEq] at hc11)
   have hme : xs.getD k [] = x := by first | exact hc11 | exact (hc11).symm
   refine ab fun _ k12 => ?_
   refine af hP hN rfl ?_
   iterate 2 (refine aa rfl fun _ k0 => ?_; simp only [zO, zT, acs, reduceCtorEq, M, E, O, Z, Y, V]; (repeat refine an ?_); (try refine .inl ?_); apply k0; clear k0; simp only [zP, E])
   refine ad ?_
   apply k12; clear k12; refine kp [0, 1, 4, 5, 7, 8, 9, 16] ?_
   refine aq ?_
   refine ⟨nr, _, rfl, ?_⟩; simp only [zF, zP, M, E]
   refine VLE.of_eq ?_
   refine congrArg (fun n => AV.one (AC.int IntKind.i64 n)) ?_
   symm
   first
   | (have g9 := mw (fun q hq2 => hq q hq2) (by omega) hme; obtain ⟨g1, g2⟩ := g9; rw [if_pos g2, g1]; done)
   | (rw [if_neg (qD fun q hq2 => hq q (by omega))]; done)
  (try simp only [zB, reduceCtorEq] at hc11)
  have hne : xs.getD k [] ≠ x := by first | exact hc11 | exact Ne.symm hc11
  refine au ?_
  apply k8; clear k8; refine kp [0, 1, 4, 5, 7, 8, 9, 16] ?_
  refine af hP hN rfl ?_
  iterate 2 (refine aa rfl fun _ k0 => ?_; simp only [zO, zT, acs, reduceCtorEq, M, E, O, Z, Y, V]; (repeat refine an ?_); (try refine .inl ?_); apply k0; clear k0; simp only [zP, E])
  refine ad ?_
  refine ⟨_, _, ?_, aB [0, 1, 4, 7, 8], k + 1, by omega, fun q hq2 => ?_, rfl, rfl⟩
  · omega
  · by_cases e : q = k
    · rw [e]; exact hne
    · exact hq q (by omega)
 (try simp only [zB, reduceCtorEq] at hc7)
 refine aW ?_
 apply k2; clear k2; refine kp [0, 1, 4, 7, 8, 9] ?_
 refine ab fun _ k13 => ?_
 refine af hP hN rfl ?_
 (refine aa rfl fun _ k0 => ?_; simp only [zO, zT, acs, reduceCtorEq, M, E, O, Z, Y, V]; (repeat refine an ?_); (try refine .inl ?_); apply k0; clear k0; simp only [zP, E])
 refine ad ?_
 apply k13; clear k13; refine kp [0, 1, 4, 7, 8, 9] ?_
 refine aq ?_
 refine ⟨nr, _, rfl, ?_⟩; simp only [zF, zP, M, E]
 refine VLE.of_eq ?_
 refine congrArg (fun n => AV.one (AC.int IntKind.i64 n)) ?_
 symm
 first
 | (have g9 := mw (fun q hq2 => hq q hq2) (by omega) hme; obtain ⟨g1, g2⟩ := g9; rw [if_pos g2, g1]; done)
 | (rw [if_neg (qD fun q hq2 => hq q (by omega))]; done)
theorem fk (xs : List Bs) (x : Bs) : bz Tryz.prog 40 [.one (.list .str xs), .one (.str x)] (.one (.bool (decide (x ∈ xs)))) := by
 refine aL Tryz.func40 rfl (by kernel_rfl) (Nat.le_of_ble_eq_true rfl) rfl fun C hP hN hB => ?_
 replace hN : C.N = 9 := hN
 simp only [aO, E]
 refine ab fun _ k1 => ?_
 refine af hP hN rfl ?_
 (refine aa rfl fun _ k0 => ?_; simp only [zO, zT, acs, reduceCtorEq, M, E, O, Z, Y, V]; (repeat refine an ?_); (try refine .inl ?_); apply k0; clear k0; simp only [zP, E])
 refine ad ?_
 apply k1; clear k1; refine kp [0, 1, 4] ?_
 refine ab fun _ k2 => ?_
 refine af hP hN rfl ?_
 iterate 2 (refine aa rfl fun _ k0 => ?_; simp only [zO, zT, acs, reduceCtorEq, M, E, O, Z, Y, V]; (repeat refine an ?_); (try refine .inl ?_); apply k0; clear k0; simp only [zP, E])
 refine aa rfl fun _ k0 => ?_
 refine az (h := aj (fc xs x)) rfl rfl (by first | exact rfl | (simp only [ev, zP, M, E]; exact rfl)) (by simp only [zV, acs, reduceCtorEq, M, E, O, Z, Y, V]) ?_
 apply k0; clear k0; simp only [zP, E]
 iterate 2 (refine aa rfl fun _ k0 => ?_; simp only [zO, zT, acs, reduceCtorEq, M, E, O, Z, Y, V]; (repeat refine an ?_); (try refine .inl ?_); apply k0; clear k0; simp only [zP, E])
 refine ad ?_
 apply k2; clear k2; refine kp [0, 1, 4] ?_
 refine aq ?_
 refine ⟨nr, _, rfl, ?_⟩; simp only [zF, zP, M, E]
 refine VLE.of_eq ?_
 refine congrArg (fun b => AV.one (AC.bool b)) ?_
 by_cases h : x ∈ xs
 · rw [if_pos h]; simp [h]
 · rw [if_neg h]; simp [h]
theorem im (xs : List Bs) : bz Tryz.prog 21 [.agg [.list .str xs]] (.one (.int .i64 (alE xs))) := by
 refine aL Tryz.func21 rfl (by kernel_rfl) (Nat.le_of_ble_eq_true rfl) rfl fun C hP hN hB => ?_
 replace hN : C.N = 33 := hN
 simp only [aO, E]
 refine ab fun _ k1 => ?_
 refine af hP hN rfl ?_
 iterate 2 (refine aa rfl fun _ k0 => ?_; simp only [zO, zT, acs, reduceCtorEq, M, E, O, Z, Y, V]; (repeat refine an ?_); (try refine .inl ?_); apply k0; clear k0; simp only [zP, E])
 refine ad ?_
 apply k1; clear k1; refine kp [0, 1, 2] ?_
 refine ab fun _ k2 => ?_
 refine aw ?_
 refine ab fun _ k3 => ?_
 refine af hP hN rfl ?_
 iterate 5 (refine aa rfl fun _ k0 => ?_; simp only [zO, zT, acs, reduceCtorEq, M, E, O, Z, Y, V]; (repeat refine an ?_); (try refine .inl ?_); apply k0; clear k0; simp only [zP, E])
 refine ad ?_
 apply k3; clear k3; refine kp [0, 1, 2, 5] ?_
 refine cd (fun hc4 => ?_) (fun hc4 => ?_)
 ·(try simp only [zB, reduceCtorEq] at hc4)
  refine ab fun _ k5 => ?_
  refine af hP hN rfl ?_
  (refine aa rfl fun _ k0 => ?_; simp only [zO, zT, acs, reduceCtorEq, M, E, O, Z, Y, V]; (repeat refine an ?_); (try refine .inl ?_); apply k0; clear k0; simp only [zP, E])
  refine ad ?_
  apply k5; clear k5; refine kp [0, 1, 2, 5] ?_
  refine aq ?_
  refine ⟨nr, _, rfl, ?_⟩; simp only [zF, zP, M, E]
  refine VLE.of_eq ?_
  refine congrArg (fun n => AV.one (AC.int IntKind.i64 n)) ?_
  symm
  first
  | exact eP (by omega)
  | exact dJ (by omega) (by omega)
  | exact eQ (by omega) (by omega) (k := k) (by omega) hq hbad
  | exact eR (by omega) (by omega) (k := k) (by omega) hq hgood hin
  | exact dk (by omega) (by omega) fun q hq2 => hq q (by omega)
 (try simp only [zB, reduceCtorEq] at hc4)
 refine ab fun _ k6 => ?_
 refine af hP hN rfl ?_
 iterate 5 (refine aa rfl fun _ k0 => ?_; simp only [zO, zT, acs, reduceCtorEq, M, E, O, Z, Y, V]; (repeat refine an ?_); (try refine .inl ?_); apply k0; clear k0; simp only [zP, E])
 refine ad ?_
 apply k6; clear k6; refine kp [0, 1, 2, 5, 10] ?_
 refine cd (fun hc7 => ?_) (fun hc7 => ?_)
 ·(try simp only [zB, reduceCtorEq] at hc7)
  refine ab fun _ k8 => ?_
  refine af hP hN rfl ?_
  (refine aa rfl fun _ k0 => ?_; simp only [zO, zT, acs, reduceCtorEq, M, E, O, Z, Y, V]; (repeat refine an ?_); (try refine .inl ?_); apply k0; clear k0; simp only [zP, E])
  refine ad ?_
  apply k8; clear k8; refine kp [0, 1, 2, 5, 10] ?_
  refine aq ?_
  refine ⟨nr, _, rfl, ?_⟩; simp only [zF, zP, M, E]
  refine VLE.of_eq ?_
  refine congrArg (fun n => AV.one (AC.int IntKind.i64 n)) ?_
  symm
  first
  | exact eP (by omega)
  | exact dJ (by omega) (by omega)
  | exact eQ (by omega) (by omega) (k := k) (by omega) hq hbad
  | exact eR (by omega) (by omega) (k := k) (by omega) hq hgood hin
  | exact dk (by omega) (by omega) fun q hq2 => hq q (by omega)
 (try simp only [zB, reduceCtorEq] at hc7)
 refine au ?_
 apply k2; clear k2; refine kp [0, 1, 2, 5, 10] ?_
 refine ab fun _ k9 => ?_
 refine ab fun _ k10 => ?_
 refine af hP hN rfl ?_
 iterate 4 (refine aa rfl fun _ k0 => ?_; simp only [zO, zT, acs, reduceCtorEq, M, E, O, Z, Y, V]; (repeat refine an ?_); (try refine .inl ?_); apply k0; clear k0; simp only [zP, E])
 refine ad ?_
 apply k10; clear k10; refine kp [0, 1, 2, 5, 10, 16, 17, 18] ?_
 refine aw ?_
 refine aU (fun n11 s11 => ∃ (k : Nat), (k ≤ xs.length) ∧ (∀ q, q < k → nmE xs q = 0) ∧ n11 = xs.length - k ∧ s11 = { env := [(1, .one (.ptr 0 0 0 0)), (2, .one (.int .i64 0)), (16, .one (.list .str xs)), (17, .one (.int .i64 (xs.length : Int))), (18, .one (.int .i64 (k : Int)))], L := [.vars 24 [.list .str xs]] }) ?_ ?_
 ·exact ⟨_, _, aB [1, 2, 16, 17, 18], 0, Nat.zero_le _, fun q hq => by omega, rfl, rfl⟩
 rintro n11 s11 ⟨k, hk, hq, rfl, rfl⟩
 refine ab fun _ k12 => ?_
 refine af hP hN rfl ?_
 (refine aa rfl fun _ k0 => ?_; simp only [zO, zT, acs, reduceCtorEq, M, E, O, Z, Y, V]; (repeat refine an ?_); (try refine .inl ?_); apply k0; clear k0; simp only [zP, E])
 refine ad ?_
 apply k12; clear k12; refine kp [1, 2, 16, 17, 18, 19] ?_
 refine ab fun _ k13 => ?_
 refine cd (fun hc14 => ?_) (fun hc14 => ?_)
 ·(try simp only [zB, reduceCtorEq] at hc14)
  refine au ?_
  apply k13; clear k13; refine kp [1, 2, 16, 17, 18, 19] ?_
  refine ab fun _ k15 => ?_
  refine aw ?_
  refine ab fun _ k16 => ?_
  refine af hP hN rfl ?_
  iterate 5 (refine aa rfl fun _ k0 => ?_; simp only [zO, zT, acs, reduceCtorEq, M, E, O, Z, Y, V]; (repeat refine an ?_); (try refine .inl ?_); apply k0; clear k0; simp only [zP, E])
  refine ad ?_
  apply k16; clear k16; refine kp [1, 2, 3, 4, 16, 17, 18, 19] ?_
  refine ab fun _ k17 => ?_
  refine ab fun _ k18 => ?_
  refine af hP hN rfl ?_
  (refine aa rfl fun _ k0 => ?_; simp only [zO, zT, acs, reduceCtorEq, M, E, O, Z, Y, V]; (repeat refine an ?_); (try refine .inl ?_); apply k0; clear k0; simp only [zP, E])
  refine aa rfl fun _ k0 => ?_
  refine az (h := aj (kD (xs.getD k []))) rfl rfl (by first | exact rfl | (simp only [ev, zP, M, E]; exact rfl)) (by simp only [zV, acs, reduceCtorEq, M, E, O, Z, Y, V]) ?_
  apply k0; clear k0; simp only [zP, E]
  (refine aa rfl fun _ k0 => ?_; simp only [zO, zT, acs, reduceCtorEq, M, E, O, Z, Y, V]; (repeat refine an ?_); (try refine .inl ?_); apply k0; clear k0; simp only [zP, E])
  refine ad ?_
  apply k18; clear k18; refine kp [1, 2, 3, 4, 16, 17, 18, 19, 25] ?_
  refine cd (fun hc19 => ?_) (fun hc19 => ?_)
  ·(try simp only [zB, reduceCtorEq] at hc19)
   have hbad : aY (xs.getD k []) = false := by simpa using hc19
   refine ab fun _ k20 => ?_
   refine af hP hN rfl ?_
   (refine aa rfl fun _ k0 => ?_; simp only [zO, zT, acs, reduceCtorEq, M, E, O, Z, Y, V]; (repeat refine an ?_); (try refine .inl ?_); apply k0; clear k0; simp only [zP, E])
   refine ad ?_
   apply k20; clear k20; refine kp [1, 2, 3, 4, 16, 17, 18, 19, 25] ?_
   refine aq ?_
   refine ⟨nr, _, rfl, ?_⟩; simp only [zF, zP, M, E]
   refine VLE.of_eq ?_
   refine congrArg (fun n => AV.one (AC.int IntKind.i64 n)) ?_
   symm
   first
   | exact eP (by omega)
   | exact dJ (by omega) (by omega)
   | exact eQ (by omega) (by omega) (k := k) (by omega) hq hbad
   | exact eR (by omega) (by omega) (k := k) (by omega) hq hgood hin
   | exact dk (by omega) (by omega) fun q hq2 => hq q (by omega)
  (try simp only [zB, reduceCtorEq] at hc19)
  have hgood : aY (xs.getD k []) = true := by simpa using hc19
  refine au ?_
  apply k17; clear k17; refine kp [1, 2, 3, 4, 16, 17, 18, 19, 25] ?_
  refine ab fun _ k21 => ?_
  refine af hP hN rfl ?_
  iterate 3 (refine aa rfl fun _ k0 => ?_; simp only [zO, zT, acs, reduceCtorEq, M, E, O, Z, Y, V, List.drop_zero, aJ, Int.toNat_zero]; (repeat refine an ?_); (try refine .inl ?_); apply k0; clear k0; simp only [zP, E])
  (refine aa rfl fun _ k0 => ?_; simp only [zE, op1, ev, lkp, cT, bq, cp, gP, Nat.mul_one, bW, dj, acs, Ty.dflt, zG, cz, cg, bnd, Ty.size, reduceCtorEq, M, E, O, Z, Y, V, Tryz.el22, Tryz.st24, Tryz.td22, Tryz.td24, Tryz.td3, Tryz.td9, List.drop_zero, aJ, Int.toNat_zero]; (repeat refine an ?_); (try refine .inl ?_); apply k0; clear k0; simp only [zP, E])
  (refine aa rfl fun _ k0 => ?_; simp only [zO, zT, acs, reduceCtorEq, M, E, O, Z, Y, V, List.drop_zero, aJ, Int.toNat_zero]; (repeat refine an ?_); (try refine .inl ?_); apply k0; clear k0; simp only [zP, E])
  refine aa rfl fun _ k0 => ?_
  refine az (h := aj (fk (xs.take k) (xs.getD k []))) rfl rfl (by first | exact rfl | (simp only [ev, zP, M, E]; exact rfl)) (by simp only [zV, acs, reduceCtorEq, M, E, O, Z, Y, V, List.drop_zero, aJ, Int.toNat_zero]) ?_
  apply k0; clear k0; simp only [zP, E]
  refine ad ?_
  apply k21; clear k21; refine kp [1, 2, 3, 4, 16, 17, 18, 19, 25, 31] ?_
  refine cd (fun hc22 => ?_) (fun hc22 => ?_)
  ·(try simp only [zB, reduceCtorEq] at hc22)
   have hin : xs.getD k [] ∈ xs.take k := by simpa using hc22
   refine ab fun _ k23 => ?_
   refine af hP hN rfl ?_
   (refine aa rfl fun _ k0 => ?_; simp only [zO, zT, acs, reduceCtorEq, M, E, O, Z, Y, V]; (repeat refine an ?_); (try refine .inl ?_); apply k0; clear k0; simp only [zP, E])
   refine ad ?_
   apply k23; clear k23; refine kp [1, 2, 3, 4, 16, 17, 18, 19, 25, 31] ?_
   refine aq ?_
   refine ⟨nr, _, rfl, ?_⟩; simp only [zF, zP, M, E]
   refine VLE.of_eq ?_
   refine congrArg (fun n => AV.one (AC.int IntKind.i64 n)) ?_
   symm
   first
   | exact eP (by omega)
   | exact dJ (by omega) (by omega)
   | exact eQ (by omega) (by omega) (k := k) (by omega) hq hbad
   | exact eR (by omega) (by omega) (k := k) (by omega) hq hgood hin
   | exact dk (by omega) (by omega) fun q hq2 => hq q (by omega)
  (try simp only [zB, reduceCtorEq] at hc22)
  have hnin : xs.getD k [] ∉ xs.take k := by simpa using hc22
  refine au ?_
  apply k15; clear k15; refine kp [1, 2, 3, 4, 16, 17, 18, 19, 25, 31] ?_
  refine af hP hN rfl ?_
  iterate 2 (refine aa rfl fun _ k0 => ?_; simp only [zO, zT, acs, reduceCtorEq, M, E, O, Z, Y, V]; (repeat refine an ?_); (try refine .inl ?_); apply k0; clear k0; simp only [zP, E])
  refine ad ?_
  refine ⟨_, _, ?_, aB [1, 2, 16, 17, 18], k + 1, by omega, fun q hq2 => ?_, rfl, rfl⟩
  · omega
  · by_cases e : q = k
    · rw [e]; exact jr hgood hnin
    · exact hq q (by omega)
 (try simp only [zB, reduceCtorEq] at hc14)
 refine aW ?_
 apply k9; clear k9; refine kp [1, 2, 16, 17, 18, 19] ?_
 refine ab fun _ k24 => ?_
 refine af hP hN rfl ?_
 (refine aa rfl fun _ k0 => ?_; simp only [zO, zT, acs, reduceCtorEq, M, E, O, Z, Y, V]; (repeat refine an ?_); (try refine .inl ?_); apply k0; clear k0; simp only [zP, E])
 refine ad ?_
 apply k24; clear k24; refine kp [1, 2, 16, 17, 18, 19] ?_
 refine aq ?_
 refine ⟨nr, _, rfl, ?_⟩; simp only [zF, zP, M, E]
 refine VLE.of_eq ?_
 refine congrArg (fun n => AV.one (AC.int IntKind.i64 n)) ?_
 symm
 first
 | exact eP (by omega)
 | exact dJ (by omega) (by omega)
 | exact eQ (by omega) (by omega) (k := k) (by omega) hq hbad
 | exact eR (by omega) (by omega) (k := k) (by omega) hq hgood hin
 | exact dk (by omega) (by omega) fun q hq2 => hq q (by omega)
section
open Go.RowKit
open Go.Shelf in
def Tryz.lays212_ren : Go.Shelf.Ren := ⟨fun | 212 => 111 | 263 => 115 | 264 => 116 | n => n, fun | 46 => 103 | 51 => 120 | 146 => 155 | 53 => 122 | 148 => 158 | n => n, fun | n => n⟩
theorem Tryz.lays212 : Go.Proofs.Lays.n212 Tryz.prog Tryz.lays212_ren := {
  mixed := by kernel_rfl,
  f212 := Tryz.func111.trans (congrArg some (by kernel_rfl)),
  f263 := Tryz.func115.trans (congrArg some (by kernel_rfl)),
  f264 := Tryz.func116.trans (congrArg some (by kernel_rfl)),
  t46 := Tryz.underlying103,
  a46 := Tryz.isAgg103,
  z46 := Tryz.sizeOf103,
  v46 := Tryz.zeroValue103,
  t51 := Tryz.underlying120,
  a51 := Tryz.isAgg120,
  z51 := Tryz.sizeOf120,
  v51 := Tryz.zeroValue120,
  t53 := Tryz.underlying122,
  a53 := Tryz.isAgg122,
  z53 := Tryz.sizeOf122,
  v53 := Tryz.zeroValue122,
  t146 := Tryz.underlying155,
  a146 := Tryz.isAgg155,
  z146 := Tryz.sizeOf155,
  v146 := Tryz.zeroValue155,
  t148 := Tryz.underlying158,
  a148 := Tryz.isAgg158,
  z148 := Tryz.sizeOf158,
  v148 := Tryz.zeroValue158 }
theorem pr {P : Program} {I S : TypeId} (hu : P.underlying S = some (.slice I)) (hs : (P.info? I).map (·.size) = some 1) (W : World) (g b o c n dc : Nat) (ty : TypeId) (h1 : 1 ≤ n) (cur : Array Value) (t : TypeId) (hg : W.heap[g]? = some (.cells cur t (0, 0))) (hz : cur.size = n) (v : Value) (hv : v.oneCell' = true) (hc : W.cell? ⟨b, o, none⟩ = some v) :
    (Builtin.copy_ #[S, S] ty #[.slice (some ⟨g, 0, none⟩) n dc, .slice (some ⟨b, o, none⟩) 1 c]).run P W = .ok (goInt 1) (W.setRow g (v :: cur.toList.drop 1).toArray) := by
  have := run_copy_row (P := P) W S S ty I g 0 n dc ⟨b, o, none⟩ 1 c cur t [v] hu hs hg (by simp [Nat.min_def]; omega) (fun j u hj => by
    cases j with
    | zero => simp at hj; subst hj; exact hc
    | succ j => simp at hj) (by simp; omega) (by simpa using hv)
  simpa using this
def cU (n k : Nat) : Array Value := (List.replicate k (Value.int .i64 (-1)) ++ List.replicate (n - k) (Value.int .i64 0)).toArray
def qj (n k : Nat) (W0 W : World) : Prop := Below W0.heap.size W0 W ∧ W.heap[W0.heap.size]? = some (.cells (cU n k) 3 (0, 0))
theorem ju {n k : Nat} (h : k ≤ n) : (cU n k).toList.length = n := by unfold cU; simp; omega
theorem tt (n : Nat) : madeCells #[Value.int IntKind.i64 0] n = cU n 0 := by
  unfold madeCells cU
  simp only [List.replicate_zero, ar, Nat.sub_zero, List.size_toArray, ah, am, Nat.zero_add, Nat.mod_one]
  apply Array.ext
  · simp
  · intro i h1 h2
    simp
theorem ud {n : Nat} (h : 1 ≤ n) : (Value.int IntKind.i64 (-1) :: (cU n 0).toList.drop 1).toArray = cU n 1 := by
  obtain ⟨m, rfl⟩ : ∃ m, n = m + 1 := ⟨n - 1, by omega⟩
  unfold cU
  simp [List.replicate_succ]
theorem pQ {P : Program} {I S : TypeId} (hu : P.underlying S = some (.slice I)) (hs : (P.info? I).map (·.size) = some 1) (W : World) (g n k dc sc : Nat) (ty : TypeId) (h1 : 1 ≤ k) (h2 : k < n) (t : TypeId) (hg : W.heap[g]? = some (.cells (cU n k) t (0, 0))) :
    (Builtin.copy_ #[S, S] ty #[.slice (some ⟨g, k, none⟩) (n - k) dc, .slice (some ⟨g, 0, none⟩) k sc]).run P W = .ok (goInt (Nat.min k (n - k))) (W.setRow g (cU n (k + Nat.min k (n - k)))) := by
  have hm : Nat.min k (n - k) ≤ k ∧ Nat.min k (n - k) ≤ n - k := ⟨Nat.min_le_left _ _, Nat.min_le_right _ _⟩
  have := run_copy_row (P := P) W S S ty I g k (n - k) dc ⟨g, 0, none⟩ k sc (cU n k) t (List.replicate (Nat.min k (n - k)) (Value.int .i64 (-1))) hu hs hg (by simp) (fun j u hj => by
    have hj2 : j < Nat.min k (n - k) ∧ u = Value.int .i64 (-1) := by
      rw [List.getElem?_replicate] at hj
      split at hj
      · exact ⟨by assumption, by cases hj; rfl⟩
      · cases hj
    obtain ⟨hj2, rfl⟩ := hj2
    have hjk : j < k := by omega
    rw [Addr.add_lit, Nat.zero_add]
    simp [World.cell?, hg, cU, List.getElem?_append, hjk]) (by have := ju (n := n) (k := k) (by omega); simp at this ⊢; omega) (by intro v hv; rw [(List.mem_replicate.1 hv).2]; rfl)
  rw [this]
  congr 2
  · simp
  · unfold cU
    simp only [aI, List.toList_toArray]
    have e1 : List.take k (List.replicate k (Value.int .i64 (-1)) ++ List.replicate (n - k) (Value.int .i64 0)) = List.replicate k (Value.int .i64 (-1)) := by
      rw [List.take_append_of_le_length (by simp)]; simp
    have e2 : List.drop (k + Nat.min k (n - k)) (List.replicate k (Value.int .i64 (-1)) ++ List.replicate (n - k) (Value.int .i64 0)) = List.replicate (n - (k + Nat.min k (n - k))) (Value.int .i64 0) := by
      rw [List.drop_append, List.drop_of_length_le (by simp), ar, List.drop_replicate]; congr 1; simp; omega
    rw [e1, e2, List.replicate_append_replicate]

theorem ov (w : World) (o : Obj) : (w.alloc o).heap[w.heap.size]? = some o := Array.getElem?_push_size
set_option maxHeartbeats 1000000 in
theorem tH (b o c n : Nat) (w : World) (h1 : 1 ≤ n) (hn : n ≤ 1000) (hc : w.cell? ⟨b, o, none⟩ = some (.int .i64 (-1))) :
    Calls Tryz.prog 101 #[.slice (some ⟨b, o, none⟩) 1 c, .int .i64 n] w fun e w' => e = .returned (.slice (some ⟨w.heap.size, 0, none⟩) n n) ∧ qj n n w w' := by
  have hm := fun W => Any.bits_Mul Tryz.lays212 1 n (by omega) (by omega) W
  have e1 : 1 * n / 18446744073709551616 = 0 := by omega
  have e2 : 1 * n % 18446744073709551616 = n := by omega
  simp only [e1, e2] at hm
  clear e1 e2
  have hmk := run_make_row' (P := Tryz.prog) 45 3 (.int .i64 0) 8 Tryz.underlying45 (by kernel_rfl) rfl .i64 .i64 n (by omega) (by omega)
  have hb : b < w.heap.size := World.block_lt_of_cell? _ _ hc
  have hsz : (Tryz.prog.info? 3).map (·.size) = some 1 := by kernel_rfl
  obtain ⟨w1, hw1⟩ : ∃ w1, w.alloc (.cells (madeCells #[Value.int .i64 0] n) 3) = w1 := ⟨_, rfl⟩
  obtain ⟨w2, hw2⟩ : ∃ w2, w1.setRow w.heap.size (cU n 1) = w2 := ⟨_, rfl⟩
  have hg1 : w1.heap[w.heap.size]? = some (.cells (cU n 0) 3 (0, 0)) := by rw [← hw1, ← tt]; exact ov w _
  have hb1 : Below w.heap.size w w1 := by rw [← hw1]; exact (Below.refl _ w).alloc (Nat.le_refl _) _
  have hO : qj n 1 w w2 := by
    rw [← hw2]
    exact ⟨below_setRow hb1 (Nat.le_refl _) _, setRow_heap w1 _ _ _ 3 _ hg1⟩
  have hcp : (Builtin.copy_ #[45, 45] 3 #[.slice (some ⟨w.heap.size, 0, none⟩) n n, .slice (some ⟨b, o, none⟩) 1 c]).run Tryz.prog w1 = .ok (goInt 1) w2 := by
    rw [← hw2, ← ud h1]
    exact pr Tryz.underlying45 hsz w1 w.heap.size b o c n n 3 h1 (cU n 0) 3 hg1 (by have := ju (n := n) (k := 0) (by omega); simpa using this) _ rfl ((hb1.cell (p := ⟨b, o, none⟩) hb).trans hc)
  have mixed := Tryz.mixed
  go_enter Tryz.func101, Tryz.ntmps101
  go_wp2_with (go_at_call 111; refine (hm _).mono ?_; rintro e w' ⟨rfl, hw⟩; rw [hw])
  clear hmk hm hcp hw1 hw2 hg1
  have HO := Lib.hid hO
  clear hO
  go_loopw [8] (fun i wr => ∃ k : Nat, 1 ≤ k ∧ k ≤ n ∧ i = .int .i64 k ∧ qj n k w wr) (fun i _ => n - (intOf i).toNat)
  case atStart => exact ⟨1, Nat.le_refl _, h1, rfl, HO.out⟩
  case round =>
    obtain ⟨k, hk1, hkn, rfl, hrel⟩ := hrel
    by_cases hlt : k < n
    · have hg := hrel.2
      have hm : Nat.min k (n - k) ≤ k ∧ Nat.min k (n - k) ≤ n - k ∧ 1 ≤ Nat.min k (n - k) := ⟨Nat.min_le_left _ _, Nat.min_le_right _ _, Nat.le_min.2 ⟨hk1, by omega⟩⟩
      have hcp1 : ∀ ty dc sc, (Builtin.copy_ #[45, 45] ty #[.slice (some ⟨w.heap.size, k, none⟩) (n - k) dc, .slice (some ⟨w.heap.size, 0, none⟩) k sc]).run Tryz.prog wr.drew = .ok (goInt (Nat.min k (n - k))) (wr.drew.setRow w.heap.size (cU n (k + Nat.min k (n - k)))) :=
        fun ty dc sc => pQ Tryz.underlying45 hsz wr.drew w.heap.size n k dc sc ty hk1 hlt 3 hg
      have hO2 : qj n (k + Nat.min k (n - k)) w (wr.drew.setRow w.heap.size (cU n (k + Nat.min k (n - k)))) :=
        ⟨below_setRow (hrel.1.drew) (Nat.le_refl _) _, setRow_heap wr.drew _ _ _ 3 _ hg⟩
      clear hrel hg
      generalize Nat.min k (n - k) = d at *
      obtain ⟨W, hW⟩ : ∃ W, W = wr.drew.setRow w.heap.size (cU n (k + d)) := ⟨_, rfl⟩
      rw [← hW] at hO2 hcp1
      clear hW
      have hb4 : ¬ (n = k) := by omega
      go_wp2
      go_region_law_o (refine step_copy_runI rfl _ _ 45 45 rfl _ _ (by simp [Act.eval, Act.put]) (by simp [Act.eval, Act.put]) (hcp1 _ _ _) ?_)
      have hwr : IntKind.i64.wrap ((k : Int) + (d : Int)) = ((k + d : Nat) : Int) := by rw [IntKind.wrap_i64]; omega
      simp only [hwr, Act.put, List.setIfInBounds_toArray, be, bJ]
      clear hwr
      go_roundw
      case rel => exact ⟨_, _, _, _, _, _, _, _, _, _, _, _, _, _, ⟨k + d, by omega, by omega, rfl, hO2⟩, rfl⟩
      case measure => show n - (((k + d : Nat) : Int)).toNat < n - ((k : Int)).toNat; omega
    · obtain rfl : k = n := by omega
      go_wp2
      go_ret
      exact ⟨rfl, hrel⟩

theorem tn (n : Nat) (h1 : 1 ≤ n) (hn : n ≤ 1000) : ul Tryz.prog 101 [.one (.list (.int .i64) [-1]), .one (.int .i64 (n : Int))] (.int .i64) 3 (List.replicate n (-1)) := by
  refine ⟨⟨Tryz.f101, Tryz.func101, by kernel_rfl, by kernel_rfl⟩, fun C L σ w vs hP hi ha => ?_⟩
  match vs, ha with
  | [v1, v2], ⟨h2, h3, _⟩ =>
  have e2 : v2 = .int .i64 n := h3.2
  subst e2
  have hd : Dat (avd C L σ) w (.list (.int .i64)) [-1] [v1] := h2.2
  simp only [Dat] at hd
  obtain ⟨A, c, e1, _, _, hr⟩ := hd
  obtain ⟨b, o, rfl, _, _, hc⟩ := hr (by simp)
  obtain ⟨cs, l1, l2, l3⟩ := hc 0 (by simp)
  obtain rfl : v1 = .slice (some ⟨b, o, none⟩) 1 c := by simpa using e1
  have l4 := l2 0 (by decide)
  have l5 : cs = [.int .i64 (-1)] := l3
  rw [l5] at l4
  have l6 : w.cell? ⟨b, o, none⟩ = some (.int .i64 (-1)) := by simpa [Ty.size] using l4
  refine (tH b o c n w h1 hn l6).mono fun e w' hh => ?_
  obtain ⟨rfl, hb, hg⟩ := hh
  refine ⟨_, (cU n n).toList, rfl, ⟨hb.size, hb.os, hb.tape, hb.output, hb.block⟩, ?_, by decide, fun i hi => ?_⟩
  · have hl := ju (Nat.le_refl n)
    refine ⟨by rw [hl]; simp [Ty.size], .inr ⟨w.heap.size, n, _, by simp, Nat.le_refl _, hg, by simp, by unfold maxLen; omega, ?_, ?_⟩⟩
    · simpa [Ty.size] using hl
    · simp only [aI, Ty.size, Nat.mul_one]; rw [List.take_of_length_le (by omega)]
  · have hi2 : i < n := by simpa using hi
    have e : ((cU n n).toList.drop (i * 1)).take 1 = [Value.int .i64 (-1)] := by
      have e2 : (cU n n).toList = List.replicate n (Value.int .i64 (-1)) := by unfold cU; simp
      rw [e2, Nat.mul_one, List.drop_replicate, show n - i = (n - i - 1) + 1 by omega, List.replicate_succ]; rfl
    show Dat _ _ (.int .i64) _ (((cU n n).toList.drop (i * 1)).take 1)
    rw [e]
    show [Value.int .i64 (-1)] = [Value.int .i64 ((List.replicate n (-1 : Int)).getD i 0)]
    simp [List.getD, hi2]
end
theorem qt (L0 : List AO) (st : Int) (inp : Nat) (hs1 : 0 ≤ st) (hs2 : st ≤ 1000) (hi1 : 1 ≤ inp) (hi2 : inp ≤ 1000) : dW Tryz.prog L0 86 [.one (.int .i64 st), .one (.int .i64 (inp : Int))] { av := .one (.rwc L0.length 0), new := cY 45 3 L0.length (List.replicate st.toNat (List.replicate inp (-1))), fp := List.range L0.length } := by
 refine fi _ _ Tryz.func86 rfl (by kernel_rfl) (Nat.le_of_ble_eq_true rfl) (by intro k hk; exact List.mem_range.2 hk) (fun C hP hN hB => ?_)
 replace hB : C.bL.length = L0.length := by rw [hB]; skip
 replace hN : C.N = 22 := hN
 simp only [aO, E]
 refine ab fun _ k1 => ?_
 refine af hP hN rfl ?_
 (refine aa rfl fun _ k0 => ?_; simp only [zO, zT, acs, reduceCtorEq, M, E, O, Z, Y, V]; (repeat refine an ?_); (try refine .inl ?_); apply k0; clear k0; simp only [zP, E])
 refine ad ?_
 apply k1; clear k1; refine kp [0, 1, 4] ?_
 refine ab fun _ k2 => ?_
 refine af hP hN rfl ?_
 (refine aa rfl fun _ k0 => ?_; simp only [zO, zT, acs, reduceCtorEq, M, E, O, Z, Y, V, ag, ah, am]; (repeat refine an ?_); (try refine .inl ?_); apply k0; clear k0; simp only [zP, E])
 (refine aa rfl fun _ k0 => ?_; simp only [zE, op1, ev, lkp, cT, bq, dZ, ba, Ty.size, Ty.dflt, reduceCtorEq, M, E, O, Z, Y, V, Tryz.el25, Tryz.td25, ag, ah, am]; (repeat refine an ?_); refine Or.inr (Or.inl (k0 _ ?_)); clear k0; simp only [zP, E])
 (refine aa rfl fun _ k0 => ?_; simp only [zO, zT, acs, reduceCtorEq, M, E, O, Z, Y, V, ag, ah, am]; (repeat refine an ?_); (try refine .inl ?_); apply k0; clear k0; simp only [zP, E])
 refine ad ?_
 apply k2; clear k2; refine kp [0, 1, 4, 5] ?_
 refine ab fun _ k3 => ?_
 refine ab fun _ k4 => ?_
 rw [oQ, ← ue L0 45 3 st.toNat]
 have hlc := mX (b := L0.length + 1) (Nat.zero_le st.toNat)
 refine af hP hN rfl ?_
 iterate 3 (refine aa rfl fun _ k0 => ?_; simp only [zO, zT, acs, reduceCtorEq, M, E, O, Z, Y, V, iU, hlc, Nat.div_one]; (repeat refine an ?_); (try refine .inl ?_); apply k0; clear k0; simp only [zP, E])
 refine ad ?_
 apply k4; clear k4; refine kp [0, 1, 4, 5, 10, 11] ?_
 refine aw ?_
 refine aU (fun n5 s5 => ∃ (k : Nat), (k ≤ st.toNat) ∧ n5 = st.toNat - k ∧ s5 = { env := [(1, .one (.int .i64 (inp : Int))), (4, .one .nils), (5, .one (.rwc L0.length 0)), (10, .one (.int .i64 st)), (11, .one (.int .i64 (k : Int)))], L := eu L0 45 3 st.toNat k (List.replicate k (List.replicate inp (-1))) }) ?_ ?_
 ·exact ⟨_, _, aB [1, 4, 5, 10, 11], 0, Nat.zero_le _, rfl, by rw [show (st.toNat : Int) = st by omega]; rfl⟩
 rintro n5 s5 ⟨k, hk, rfl, rfl⟩
 refine ab fun _ k6 => ?_
 refine af hP hN rfl ?_
 (refine aa rfl fun _ k0 => ?_; simp only [zO, zT, acs, reduceCtorEq, M, E, O, Z, Y, V]; (repeat refine an ?_); (try refine .inl ?_); apply k0; clear k0; simp only [zP, E])
 refine ad ?_
 apply k6; clear k6; refine kp [1, 4, 5, 10, 11, 12] ?_
 refine ab fun _ k7 => ?_
 refine cd (fun hc8 => ?_) (fun hc8 => ?_)
 ·(try simp only [zB, reduceCtorEq] at hc8)
  refine au ?_
  apply k7; clear k7; refine kp [1, 4, 5, 10, 11, 12] ?_
  refine ab fun _ k9 => ?_
  refine aw ?_
  refine ab fun _ k10 => ?_
  refine af hP hN rfl ?_
  iterate 2 (refine aa rfl fun _ k0 => ?_; simp only [zO, zT, acs, reduceCtorEq, M, E, O, Z, Y, V]; (repeat refine an ?_); (try refine .inl ?_); apply k0; clear k0; simp only [zP, E])
  refine ad ?_
  apply k10; clear k10; refine kp [1, 4, 5, 6, 10, 11, 12] ?_
  have hlc := mX (b := L0.length + 1) (show k ≤ st.toNat by omega)
  have hst := rx L0 45 3 (n := st.toNat) (k := k) (List.replicate (k + 1) (List.replicate inp (-1))) (by omega)
  have hrr : List.replicate k (List.replicate inp (-1 : Int)) ++ [List.replicate inp (-1)] = List.replicate (k + 1) (List.replicate inp (-1)) := by rw [show [List.replicate inp (-1 : Int)] = List.replicate 1 (List.replicate inp (-1)) from rfl, List.replicate_append_replicate]
  refine af hP hN rfl ?_
  iterate 4 (refine aa rfl fun _ k0 => ?_; simp only [zO, zT, acs, reduceCtorEq, M, E, O, Z, Y, V, iU, jo, aI, hlc, aJ, Nat.add_zero]; (repeat refine an ?_); (try refine .inl ?_); apply k0; clear k0; simp only [zP, E, ji, hrr, hst, aI])
  refine aa rfl fun _ k0 => ?_
  refine az (h := pG (tn inp hi1 hi2)) rfl rfl (by first | exact rfl | (simp only [ev, zP, M, E]; exact rfl)) (by simp only [zV, acs, reduceCtorEq, M, E, O, Z, Y, V, iU, jo, aI, hlc, aJ, Nat.add_zero]) ?_
  apply k0; clear k0; simp only [zP, E, ji, hrr, hst, aI]
  iterate 2 (refine aa rfl fun _ k0 => ?_; simp only [zO, zT, acs, reduceCtorEq, M, E, O, Z, Y, V, iU, jo, aI, hlc, aJ, Nat.add_zero]; (repeat refine an ?_); (try refine .inl ?_); apply k0; clear k0; simp only [zP, E, ji, hrr, hst, aI])
  refine ad ?_
  apply k9; clear k9; refine kp [1, 4, 5, 6, 10, 11, 12] ?_
  refine af hP hN rfl ?_
  iterate 2 (refine aa rfl fun _ k0 => ?_; simp only [zO, zT, acs, reduceCtorEq, M, E, O, Z, Y, V]; (repeat refine an ?_); (try refine .inl ?_); apply k0; clear k0; simp only [zP, E])
  refine ad ?_
  refine ⟨_, _, ?_, aB [1, 4, 5, 10, 11], k + 1, by omega, rfl, by rw [← hst]; rfl⟩
  omega
 (try simp only [zB, reduceCtorEq] at hc8)
 refine aW ?_
 apply k3; clear k3; refine kp [1, 4, 5, 10, 11, 12] ?_
 refine ab fun _ k11 => ?_
 refine af hP hN rfl ?_
 iterate 2 (refine aa rfl fun _ k0 => ?_; simp only [zO, zT, acs, reduceCtorEq, M, E, O, Z, Y, V]; (repeat refine an ?_); (try refine .inl ?_); apply k0; clear k0; simp only [zP, E])
 refine ad ?_
 apply k11; clear k11; refine kp [1, 4, 5, 10, 11, 12] ?_
 refine aq ?_
 refine ⟨by first | exact .inl rfl | exact .inr rfl, _, rfl, ?_⟩; simp only [zP, M, E]
 obtain rfl : k = st.toNat := by omega
 rw [qJ L0 _ _ _ _ (aI ..)]
 all_goals rfl
set_option maxHeartbeats 1000000 in
theorem t0 (r : RS) (a b : AC) (U : List AO) (l : List Bs) (hl : l.length ≤ 1000000) (hi : 1 ≤ r.ins.length ∧ r.ins.length ≤ 64) : dW Tryz.prog (.vars 60 [.str r.nm, .list .str r.ins, .list .str r.outs, .int .i64 r.inp, .int .i64 r.st, a, b, .list .str r.sts, .int .i64 (r.rd : Int), .int .i64 r.lf] :: U) 64 [.one (.ptr 0 0 0 0), .one (.list .str l)] { av := .one (.int .i64 (dq l)), upd := eZ (U.length + 1) (iE 60 45 3 r a b U l), new := (iE 60 45 3 r a b U l).drop (U.length + 1), fp := List.range (U.length + 1) } := by
 refine fi _ _ Tryz.func64 rfl (by kernel_rfl) (Nat.le_of_ble_eq_true rfl) (by intro k hk; exact List.mem_range.2 hk) (fun C hP hN hB => ?_)
 replace hB : C.bL.length = U.length + 1 := by rw [hB]; rfl
 replace hN : C.N = 64 := hN
 simp only [aO, E]
 refine ab fun _ k1 => ?_
 refine af hP hN rfl ?_
 (refine aa rfl fun _ k0 => ?_; simp only [zO, zT, acs, reduceCtorEq, M, E, O, Z, Y, V]; (repeat refine an ?_); (try refine .inl ?_); apply k0; clear k0; simp only [zP, E])
 refine ad ?_
 apply k1; clear k1; refine kp [0, 1, 4] ?_
 refine ab fun _ k2 => ?_
 refine aw ?_
 refine ab fun _ k3 => ?_
 refine af hP hN rfl ?_
 iterate 4 (refine aa rfl fun _ k0 => ?_; simp only [zO, zT, acs, reduceCtorEq, M, E, O, Z, Y, V]; (repeat refine an ?_); (try refine .inl ?_); apply k0; clear k0; simp only [zP, E])
 refine ad ?_
 apply k3; clear k3; refine kp [0, 1, 4, 8] ?_
 refine cd (fun hc4 => ?_) (fun hc4 => ?_)
 ·(try simp only [zB, reduceCtorEq] at hc4)
  refine ab fun _ k5 => ?_
  refine af hP hN rfl ?_
  (refine aa rfl fun _ k0 => ?_; simp only [zO, zT, acs, reduceCtorEq, M, E, O, Z, Y, V]; (repeat refine an ?_); (try refine .inl ?_); apply k0; clear k0; simp only [zP, E])
  refine ad ?_
  apply k5; clear k5; refine kp [0, 1, 4, 8] ?_
  refine aq ?_
  refine ⟨by first | exact .inl rfl | exact .inr rfl, _, rfl, ?_⟩; simp only [zP, M, E]
  have hU := aH (c0 (R := 60) (S := 45) (I := 3) (r := r) (a := a) (b := b) (U := U) (l := l) (x := .vars 60 [.str r.nm, .list .str r.ins, .list .str r.outs, .int .i64 r.inp, .int .i64 r.st, a, b, .list .str r.sts, .int .i64 (r.rd : Int), .int .i64 r.lf]))
  simp only [ah] at hU
  rw [hU]
  first
  | (have hE := lq (l := l) (by omega)
     rw [bE hE (by decide), hE]; all_goals exact ⟨rfl, rfl⟩)
  | (have hE := gi (l := l) (by omega) (by omega)
     rw [bE hE (by decide), hE]; all_goals exact ⟨rfl, rfl⟩)
  | (have hE := lu (l := l) (by omega) (by omega) (k := k) (by omega) hq hbad
     rw [bE hE (by decide), hE]; all_goals exact ⟨rfl, rfl⟩)
  | (have hE := lJ (l := l) (by omega) (by omega) (k := k) (by omega) hq hgood hin
     rw [bE hE (by decide), hE]; all_goals exact ⟨rfl, rfl⟩)
  | (have hE := gQ (l := l) (by omega) (by omega) fun q hq2 => hq q (by omega)
     have e9 : (U ++ cY 45 3 (U.length + 1) (List.replicate l.length (List.replicate r.ins.length (-1)))).length + 1 = U.length + 2 + l.length := by rw [ag, eo, aI]; omega
     rw [e9, eY hE, hE]; all_goals exact ⟨rfl, rfl⟩)
 (try simp only [zB, reduceCtorEq] at hc4)
 refine ab fun _ k6 => ?_
 refine af hP hN rfl ?_
 iterate 4 (refine aa rfl fun _ k0 => ?_; simp only [zO, zT, acs, reduceCtorEq, M, E, O, Z, Y, V]; (repeat refine an ?_); (try refine .inl ?_); apply k0; clear k0; simp only [zP, E])
 refine ad ?_
 apply k6; clear k6; refine kp [0, 1, 4, 8, 12] ?_
 refine cd (fun hc7 => ?_) (fun hc7 => ?_)
 ·(try simp only [zB, reduceCtorEq] at hc7)
  refine ab fun _ k8 => ?_
  refine af hP hN rfl ?_
  (refine aa rfl fun _ k0 => ?_; simp only [zO, zT, acs, reduceCtorEq, M, E, O, Z, Y, V]; (repeat refine an ?_); (try refine .inl ?_); apply k0; clear k0; simp only [zP, E])
  refine ad ?_
  apply k8; clear k8; refine kp [0, 1, 4, 8, 12] ?_
  refine aq ?_
  refine ⟨by first | exact .inl rfl | exact .inr rfl, _, rfl, ?_⟩; simp only [zP, M, E]
  have hU := aH (c0 (R := 60) (S := 45) (I := 3) (r := r) (a := a) (b := b) (U := U) (l := l) (x := .vars 60 [.str r.nm, .list .str r.ins, .list .str r.outs, .int .i64 r.inp, .int .i64 r.st, a, b, .list .str r.sts, .int .i64 (r.rd : Int), .int .i64 r.lf]))
  simp only [ah] at hU
  rw [hU]
  first
  | (have hE := lq (l := l) (by omega)
     rw [bE hE (by decide), hE]; all_goals exact ⟨rfl, rfl⟩)
  | (have hE := gi (l := l) (by omega) (by omega)
     rw [bE hE (by decide), hE]; all_goals exact ⟨rfl, rfl⟩)
  | (have hE := lu (l := l) (by omega) (by omega) (k := k) (by omega) hq hbad
     rw [bE hE (by decide), hE]; all_goals exact ⟨rfl, rfl⟩)
  | (have hE := lJ (l := l) (by omega) (by omega) (k := k) (by omega) hq hgood hin
     rw [bE hE (by decide), hE]; all_goals exact ⟨rfl, rfl⟩)
  | (have hE := gQ (l := l) (by omega) (by omega) fun q hq2 => hq q (by omega)
     have e9 : (U ++ cY 45 3 (U.length + 1) (List.replicate l.length (List.replicate r.ins.length (-1)))).length + 1 = U.length + 2 + l.length := by rw [ag, eo, aI]; omega
     rw [e9, eY hE, hE]; all_goals exact ⟨rfl, rfl⟩)
 (try simp only [zB, reduceCtorEq] at hc7)
 refine au ?_
 apply k2; clear k2; refine kp [0, 1, 4, 8, 12] ?_
 refine ab fun _ k9 => ?_
 refine ab fun _ k10 => ?_
 refine af hP hN rfl ?_
 iterate 3 (refine aa rfl fun _ k0 => ?_; simp only [zO, zT, acs, reduceCtorEq, M, E, O, Z, Y, V]; (repeat refine an ?_); (try refine .inl ?_); apply k0; clear k0; simp only [zP, E])
 refine ad ?_
 apply k10; clear k10; refine kp [0, 1, 4, 8, 12, 16, 17, 18] ?_
 refine aw ?_
 refine aU (fun n11 s11 => ∃ (k : Nat), (k ≤ l.length) ∧ (∀ q, q < k → nmE l q = 0) ∧ n11 = l.length - k ∧ s11 = { env := [(0, .one (.ptr 0 0 0 0)), (1, .one (.list .str l)), (4, .one (.int .i64 0)), (16, .one (.list .str l)), (17, .one (.int .i64 (l.length : Int))), (18, .one (.int .i64 (k : Int)))], L := (.vars 60 [.str r.nm, .list .str r.ins, .list .str r.outs, .int .i64 r.inp, .int .i64 r.st, a, b, .list .str r.sts, .int .i64 (r.rd : Int), .int .i64 r.lf] :: U) }) ?_ ?_
 ·exact ⟨_, _, aB [0, 1, 4, 16, 17, 18], 0, Nat.zero_le _, fun q hq => by omega, rfl, rfl⟩
 rintro n11 s11 ⟨k, hk, hq, rfl, rfl⟩
 refine ab fun _ k12 => ?_
 refine af hP hN rfl ?_
 (refine aa rfl fun _ k0 => ?_; simp only [zO, zT, acs, reduceCtorEq, M, E, O, Z, Y, V]; (repeat refine an ?_); (try refine .inl ?_); apply k0; clear k0; simp only [zP, E])
 refine ad ?_
 apply k12; clear k12; refine kp [0, 1, 4, 16, 17, 18, 19] ?_
 refine ab fun _ k13 => ?_
 refine cd (fun hc14 => ?_) (fun hc14 => ?_)
 ·(try simp only [zB, reduceCtorEq] at hc14)
  refine au ?_
  apply k13; clear k13; refine kp [0, 1, 4, 16, 17, 18, 19] ?_
  refine ab fun _ k15 => ?_
  refine aw ?_
  refine ab fun _ k16 => ?_
  refine af hP hN rfl ?_
  iterate 5 (refine aa rfl fun _ k0 => ?_; simp only [zO, zT, acs, reduceCtorEq, M, E, O, Z, Y, V]; (repeat refine an ?_); (try refine .inl ?_); apply k0; clear k0; simp only [zP, E])
  refine ad ?_
  apply k16; clear k16; refine kp [0, 1, 4, 5, 6, 16, 17, 18, 19] ?_
  refine ab fun _ k17 => ?_
  refine ab fun _ k18 => ?_
  refine af hP hN rfl ?_
  (refine aa rfl fun _ k0 => ?_; simp only [zO, zT, acs, reduceCtorEq, M, E, O, Z, Y, V]; (repeat refine an ?_); (try refine .inl ?_); apply k0; clear k0; simp only [zP, E])
  refine aa rfl fun _ k0 => ?_
  refine az (h := aj (kD (l.getD k []))) rfl rfl (by first | exact rfl | (simp only [ev, zP, M, E]; exact rfl)) (by simp only [zV, acs, reduceCtorEq, M, E, O, Z, Y, V]) ?_
  apply k0; clear k0; simp only [zP, E]
  (refine aa rfl fun _ k0 => ?_; simp only [zO, zT, acs, reduceCtorEq, M, E, O, Z, Y, V]; (repeat refine an ?_); (try refine .inl ?_); apply k0; clear k0; simp only [zP, E])
  refine ad ?_
  apply k18; clear k18; refine kp [0, 1, 4, 5, 6, 16, 17, 18, 19, 25] ?_
  refine cd (fun hc19 => ?_) (fun hc19 => ?_)
  ·(try simp only [zB, reduceCtorEq] at hc19)
   have hbad : aY (l.getD k []) = false := by simpa using hc19
   refine ab fun _ k20 => ?_
   refine af hP hN rfl ?_
   (refine aa rfl fun _ k0 => ?_; simp only [zO, zT, acs, reduceCtorEq, M, E, O, Z, Y, V]; (repeat refine an ?_); (try refine .inl ?_); apply k0; clear k0; simp only [zP, E])
   refine ad ?_
   apply k20; clear k20; refine kp [0, 1, 4, 5, 6, 16, 17, 18, 19, 25] ?_
   refine aq ?_
   refine ⟨by first | exact .inl rfl | exact .inr rfl, _, rfl, ?_⟩; simp only [zP, M, E]
   have hU := aH (c0 (R := 60) (S := 45) (I := 3) (r := r) (a := a) (b := b) (U := U) (l := l) (x := .vars 60 [.str r.nm, .list .str r.ins, .list .str r.outs, .int .i64 r.inp, .int .i64 r.st, a, b, .list .str r.sts, .int .i64 (r.rd : Int), .int .i64 r.lf]))
   simp only [ah] at hU
   rw [hU]
   first
   | (have hE := lq (l := l) (by omega)
      rw [bE hE (by decide), hE]; all_goals exact ⟨rfl, rfl⟩)
   | (have hE := gi (l := l) (by omega) (by omega)
      rw [bE hE (by decide), hE]; all_goals exact ⟨rfl, rfl⟩)
   | (have hE := lu (l := l) (by omega) (by omega) (k := k) (by omega) hq hbad
      rw [bE hE (by decide), hE]; all_goals exact ⟨rfl, rfl⟩)
   | (have hE := lJ (l := l) (by omega) (by omega) (k := k) (by omega) hq hgood hin
      rw [bE hE (by decide), hE]; all_goals exact ⟨rfl, rfl⟩)
   | (have hE := gQ (l := l) (by omega) (by omega) fun q hq2 => hq q (by omega)
      have e9 : (U ++ cY 45 3 (U.length + 1) (List.replicate l.length (List.replicate r.ins.length (-1)))).length + 1 = U.length + 2 + l.length := by rw [ag, eo, aI]; omega
      rw [e9, eY hE, hE]; all_goals exact ⟨rfl, rfl⟩)
  (try simp only [zB, reduceCtorEq] at hc19)
  have hgood : aY (l.getD k []) = true := by simpa using hc19
  refine au ?_
  apply k17; clear k17; refine kp [0, 1, 4, 5, 6, 16, 17, 18, 19, 25] ?_
  refine ab fun _ k21 => ?_
  refine af hP hN rfl ?_
  iterate 2 (refine aa rfl fun _ k0 => ?_; simp only [zO, zT, acs, reduceCtorEq, M, E, O, Z, Y, V, List.drop_zero, aJ, Int.toNat_zero]; (repeat refine an ?_); (try refine .inl ?_); apply k0; clear k0; simp only [zP, E])
  (refine aa rfl fun _ k0 => ?_; simp only [zE, op1, ev, lkp, cT, bq, cg, bnd, Ty.size, reduceCtorEq, M, E, O, Z, Y, V, Tryz.el22, Tryz.td22, Tryz.td3, Tryz.td9, List.drop_zero, aJ, Int.toNat_zero]; (repeat refine an ?_); (try refine .inl ?_); apply k0; clear k0; simp only [zP, E])
  (refine aa rfl fun _ k0 => ?_; simp only [zO, zT, acs, reduceCtorEq, M, E, O, Z, Y, V, List.drop_zero, aJ, Int.toNat_zero]; (repeat refine an ?_); (try refine .inl ?_); apply k0; clear k0; simp only [zP, E])
  refine aa rfl fun _ k0 => ?_
  refine az (h := aj (fk (l.take k) (l.getD k []))) rfl rfl (by first | exact rfl | (simp only [ev, zP, M, E]; exact rfl)) (by simp only [zV, acs, reduceCtorEq, M, E, O, Z, Y, V, List.drop_zero, aJ, Int.toNat_zero]) ?_
  apply k0; clear k0; simp only [zP, E]
  refine ad ?_
  apply k21; clear k21; refine kp [0, 1, 4, 5, 6, 16, 17, 18, 19, 25, 30] ?_
  refine cd (fun hc22 => ?_) (fun hc22 => ?_)
  ·(try simp only [zB, reduceCtorEq] at hc22)
   have hin : l.getD k [] ∈ l.take k := by simpa using hc22
   refine ab fun _ k23 => ?_
   refine af hP hN rfl ?_
   (refine aa rfl fun _ k0 => ?_; simp only [zO, zT, acs, reduceCtorEq, M, E, O, Z, Y, V]; (repeat refine an ?_); (try refine .inl ?_); apply k0; clear k0; simp only [zP, E])
   refine ad ?_
   apply k23; clear k23; refine kp [0, 1, 4, 5, 6, 16, 17, 18, 19, 25, 30] ?_
   refine aq ?_
   refine ⟨by first | exact .inl rfl | exact .inr rfl, _, rfl, ?_⟩; simp only [zP, M, E]
   have hU := aH (c0 (R := 60) (S := 45) (I := 3) (r := r) (a := a) (b := b) (U := U) (l := l) (x := .vars 60 [.str r.nm, .list .str r.ins, .list .str r.outs, .int .i64 r.inp, .int .i64 r.st, a, b, .list .str r.sts, .int .i64 (r.rd : Int), .int .i64 r.lf]))
   simp only [ah] at hU
   rw [hU]
   first
   | (have hE := lq (l := l) (by omega)
      rw [bE hE (by decide), hE]; all_goals exact ⟨rfl, rfl⟩)
   | (have hE := gi (l := l) (by omega) (by omega)
      rw [bE hE (by decide), hE]; all_goals exact ⟨rfl, rfl⟩)
   | (have hE := lu (l := l) (by omega) (by omega) (k := k) (by omega) hq hbad
      rw [bE hE (by decide), hE]; all_goals exact ⟨rfl, rfl⟩)
   | (have hE := lJ (l := l) (by omega) (by omega) (k := k) (by omega) hq hgood hin
      rw [bE hE (by decide), hE]; all_goals exact ⟨rfl, rfl⟩)
   | (have hE := gQ (l := l) (by omega) (by omega) fun q hq2 => hq q (by omega)
      have e9 : (U ++ cY 45 3 (U.length + 1) (List.replicate l.length (List.replicate r.ins.length (-1)))).length + 1 = U.length + 2 + l.length := by rw [ag, eo, aI]; omega
      rw [e9, eY hE, hE]; all_goals exact ⟨rfl, rfl⟩)
  (try simp only [zB, reduceCtorEq] at hc22)
  have hnin : l.getD k [] ∉ l.take k := by simpa using hc22
  refine au ?_
  apply k15; clear k15; refine kp [0, 1, 4, 5, 6, 16, 17, 18, 19, 25, 30] ?_
  refine af hP hN rfl ?_
  iterate 2 (refine aa rfl fun _ k0 => ?_; simp only [zO, zT, acs, reduceCtorEq, M, E, O, Z, Y, V]; (repeat refine an ?_); (try refine .inl ?_); apply k0; clear k0; simp only [zP, E])
  refine ad ?_
  refine ⟨_, _, ?_, aB [0, 1, 4, 16, 17, 18], k + 1, by omega, fun q hq2 => ?_, rfl, rfl⟩
  · omega
  · by_cases e : q = k
    · rw [e]; exact jr hgood hnin
    · exact hq q (by omega)
 (try simp only [zB, reduceCtorEq] at hc14)
 refine aW ?_
 apply k9; clear k9; refine kp [0, 1, 4, 16, 17, 18, 19] ?_
 refine ab fun _ k24 => ?_
 refine af hP hN rfl ?_
 iterate 8 (refine aa rfl fun _ k0 => ?_; simp only [zO, zT, acs, reduceCtorEq, M, E, O, Z, Y, V]; (repeat refine an ?_); (try refine .inl ?_); apply k0; clear k0; simp only [zP, E])
 refine ad ?_
 apply k24; clear k24; refine kp [0, 1, 4, 7, 16, 17, 18, 19] ?_
 refine ab fun _ k25 => ?_
 refine af hP hN rfl ?_
 iterate 5 (refine aa rfl fun _ k0 => ?_; simp only [zO, zT, acs, reduceCtorEq, M, E, O, Z, Y, V]; (repeat refine an ?_); (try refine .inl ?_); apply k0; clear k0; simp only [zP, E])
 refine ad ?_
 apply k25; clear k25; refine kp [0, 1, 4, 7, 16, 17, 18, 19] ?_
 refine ab fun _ k26 => ?_
 have hmu : (l.length : Int) * r.ins.length ≤ 128 * 64 := Int.mul_le_mul (by omega) (by omega) (by omega) (by omega)
 have hm0 : (0 : Int) ≤ (l.length : Int) * r.ins.length := Int.mul_nonneg (by omega) (by omega)
 refine af hP hN rfl ?_
 iterate 8 (refine aa rfl fun _ k0 => ?_; simp only [zO, zT, acs, reduceCtorEq, M, E, O, Z, Y, V]; (repeat refine an ?_); (try refine .inl ?_); apply k0; clear k0; simp only [zP, E])
 refine ad ?_
 apply k26; clear k26; refine kp [0, 1, 4, 7, 16, 17, 18, 19] ?_
 refine ab fun _ k27 => ?_
 refine af hP hN rfl ?_
 iterate 5 (refine aa rfl fun _ k0 => ?_; simp only [zO, zT, acs, reduceCtorEq, M, E, O, Z, Y, V]; (repeat refine an ?_); (try refine .inl ?_); apply k0; clear k0; simp only [zP, E])
 refine aa rfl fun _ k0 => ?_
 refine az (h := qt _ (l.length : Int) r.ins.length (by omega) (by omega) (by omega) (by omega)) rfl rfl (by first | exact rfl | (simp only [ev, zP, M, E]; exact rfl)) (by simp only [zV, acs, reduceCtorEq, M, E, O, Z, Y, V]) ?_
 apply k0; clear k0; simp only [zP, E]
 iterate 3 (refine aa rfl fun _ k0 => ?_; simp only [zO, zT, acs, reduceCtorEq, M, E, O, Z, Y, V]; (repeat refine an ?_); (try refine .inl ?_); apply k0; clear k0; simp only [zP, E])
 refine aa rfl fun _ k0 => ?_
 refine az (h := qt _ (l.length : Int) r.ins.length (by omega) (by omega) (by omega) (by omega)) rfl rfl (by first | exact rfl | (simp only [ev, zP, M, E]; exact rfl)) (by simp only [zV, acs, reduceCtorEq, M, E, O, Z, Y, V]) ?_
 apply k0; clear k0; simp only [zP, E]
 iterate 5 (refine aa rfl fun _ k0 => ?_; simp only [zO, zT, acs, reduceCtorEq, M, E, O, Z, Y, V]; (repeat refine an ?_); (try refine .inl ?_); apply k0; clear k0; simp only [zP, E])
 refine ad ?_
 apply k27; clear k27; refine kp [0, 1, 4, 7, 16, 17, 18, 19] ?_
 refine ab fun _ k28 => ?_
 refine af hP hN rfl ?_
 (refine aa rfl fun _ k0 => ?_; simp only [zO, zT, acs, reduceCtorEq, M, E, O, Z, Y, V]; (repeat refine an ?_); (try refine .inl ?_); apply k0; clear k0; simp only [zP, E])
 refine ad ?_
 apply k28; clear k28; refine kp [0, 1, 4, 7, 16, 17, 18, 19] ?_
 refine aq ?_
 refine ⟨by first | exact .inl rfl | exact .inr rfl, _, rfl, ?_⟩; simp only [zP, M, E]
 have hU := aH (c0 (R := 60) (S := 45) (I := 3) (r := r) (a := a) (b := b) (U := U) (l := l) (x := .vars 60 [.str r.nm, .list .str r.ins, .list .str r.outs, .int .i64 r.inp, .int .i64 r.st, a, b, .list .str r.sts, .int .i64 (r.rd : Int), .int .i64 r.lf]))
 simp only [ah] at hU
 rw [hU]
 first
 | (have hE := lq (l := l) (by omega)
    rw [bE hE (by decide), hE]; all_goals exact ⟨rfl, rfl⟩)
 | (have hE := gi (l := l) (by omega) (by omega)
    rw [bE hE (by decide), hE]; all_goals exact ⟨rfl, rfl⟩)
 | (have hE := lu (l := l) (by omega) (by omega) (k := k) (by omega) hq hbad
    rw [bE hE (by decide), hE]; all_goals exact ⟨rfl, rfl⟩)
 | (have hE := lJ (l := l) (by omega) (by omega) (k := k) (by omega) hq hgood hin
    rw [bE hE (by decide), hE]; all_goals exact ⟨rfl, rfl⟩)
 | (have hE := gQ (l := l) (by omega) (by omega) fun q hq2 => hq q (by omega)
    have e9 : (U ++ cY 45 3 (U.length + 1) (List.replicate l.length (List.replicate r.ins.length (-1)))).length + 1 = U.length + 2 + l.length := by rw [ag, eo, aI]; omega
    rw [e9, eY hE, hE]; all_goals exact ⟨rfl, rfl⟩)
set_option maxHeartbeats 1000000 in
theorem tG (r : RS) (a b : AC) (U : List AO) (w : List Bs) (hl : w.length ≤ 1000000) (h0 : 0 < w.length) (hr : r.rd < 5) (hi : r.rd = 3 → 1 ≤ r.ins.length ∧ r.ins.length ≤ 64) : dW Tryz.prog (.vars 60 [.str r.nm, .list .str r.ins, .list .str r.outs, .int .i64 r.inp, .int .i64 r.st, a, b, .list .str r.sts, .int .i64 (r.rd : Int), .int .i64 r.lf] :: U) 49 [.one (.ptr 0 0 0 0), .one (.list .str w)] { av := .one (.int .i64 (bh r w).2), upd := eZ (U.length + 1) (eT 60 45 3 r a b U w), new := (eT 60 45 3 r a b U w).drop (U.length + 1), fp := List.range (U.length + 1) } := by
 refine fi _ _ Tryz.func49 rfl (by kernel_rfl) (Nat.le_of_ble_eq_true rfl) (by intro k hk; exact List.mem_range.2 hk) (fun C hP hN hB => ?_)
 replace hB : C.bL.length = U.length + 1 := by rw [hB]; rfl
 replace hN : C.N = 114 := hN
 simp only [aO, E]
 refine ab fun _ k1 => ?_
 refine af hP hN rfl ?_
 (refine aa rfl fun _ k0 => ?_; simp only [zO, zT, acs, reduceCtorEq, M, E, O, Z, Y, V, Int.toNat_one]; (repeat refine an ?_); (try refine .inl ?_); apply k0; clear k0; simp only [zP, E])
 refine ad ?_
 apply k1; clear k1; refine kp [0, 1, 4] ?_
 refine ab fun _ k2 => ?_
 have hk4 : r.rd ≤ 4 := by omega
 have htk : [AC.str [109, 97, 99, 104, 105, 110, 101], AC.str [105, 110, 112, 117, 116, 115], AC.str [111, 117, 116, 112, 117, 116, 115], AC.str [115, 116, 97, 116, 101, 115], AC.str [115, 116, 97, 114, 116]][r.rd]? = some (AC.str (kwd r.rd)) := by rcases (show r.rd = 0 ∨ r.rd = 1 ∨ r.rd = 2 ∨ r.rd = 3 ∨ r.rd = 4 by omega) with e | e | e | e | e <;> rw [e] <;> rfl
 refine af hP hN rfl ?_
 iterate 7 (refine aa rfl fun _ k0 => ?_; simp only [zO, zT, acs, reduceCtorEq, M, E, O, Z, Y, V, Int.toNat_one, htk]; (repeat refine an ?_); (try refine .inl ?_); apply k0; clear k0; simp only [zP, E])
 refine ad ?_
 apply k2; clear k2; refine kp [0, 1, 4, 5] ?_
 refine ab fun _ k3 => ?_
 refine af hP hN rfl ?_
 iterate 6 (refine aa rfl fun _ k0 => ?_; simp only [zO, zT, acs, reduceCtorEq, M, E, O, Z, Y, V, Int.toNat_one]; (repeat refine an ?_); (try refine .inl ?_); apply k0; clear k0; simp only [zP, E])
 refine' ay (want := false) 5 rfl (m := 18) (by simp only [zP, M, E]; exact rfl) (by kernel_rfl) rfl rfl rfl rfl rfl (fun hg4 => ?a4) ?b4 ?c4
 case a4 =>
  have hq4 := hg4; (try simp only [zB, reduceCtorEq] at hg4); simp only [zE]
  iterate 5 (refine aN rfl fun _ k0 => ?_; simp only [zO, zT, acs, reduceCtorEq, M, E, O, Z, Y, V, Int.toNat_one]; (repeat refine an ?_); (try refine .inl ?_); apply k0; clear k0; simp only [zP, E])
  (refine aa rfl fun _ k0 => ?_; simp only [zO, zT, acs, reduceCtorEq, M, E, O, Z, Y, V, Int.toNat_one]; (repeat refine an ?_); (try refine .inl ?_); apply k0; clear k0; simp only [zP, E])
  refine ad ?_
  refine ⟨by simp only [zP, M, E]; exact rfl, rfl, ?_, rfl⟩; (repeat refine ax rfl ?_); exact aM (by exact rfl) hq4
 case b4 => exact bb
 simp only [aC, aA]
 (refine aa rfl fun _ k0 => ?_; simp only [zO, zT, acs, reduceCtorEq, M, E, O, Z, Y, V, Int.toNat_one]; (repeat refine an ?_); (try refine .inl ?_); apply k0; clear k0; simp only [zP, E])
 refine ad ?_
 apply k3; clear k3; refine kp [0, 1, 4, 5, 6] ?_
 refine ab fun _ k5 => ?_
 refine ab fun _ k6 => ?_
 refine af hP hN rfl ?_
 iterate 6 (refine aa rfl fun _ k0 => ?_; simp only [zO, zT, acs, reduceCtorEq, M, E, O, Z, Y, V, Int.toNat_one]; (repeat refine an ?_); (try refine .inl ?_); apply k0; clear k0; simp only [zP, E])
 refine' ay (want := false) 6 rfl (m := 30) (by simp only [zP, M, E]; exact rfl) (by kernel_rfl) rfl rfl rfl rfl rfl (fun hg7 => ?a7) ?b7 ?c7
 case a7 =>
  have hq7 := hg7; (try simp only [zB, reduceCtorEq] at hg7); simp only [zE]
  iterate 2 (refine aN rfl fun _ k0 => ?_; simp only [zO, zT, acs, reduceCtorEq, M, E, O, Z, Y, V, Int.toNat_one]; (repeat refine an ?_); (try refine .inl ?_); apply k0; clear k0; simp only [zP, E])
  refine' ay (want := true) 3 rfl (m := 32) (by simp only [zP, M, E]; exact rfl) (by kernel_rfl) rfl rfl rfl rfl rfl (fun hg8 => ?a8) ?b8 ?c8
  case a8 =>
   have hq8 := hg8; (try simp only [zB, reduceCtorEq] at hg8); simp only [zE]
   iterate 4 (refine aN rfl fun _ k0 => ?_; simp only [zO, zT, acs, reduceCtorEq, M, E, O, Z, Y, V, Int.toNat_one]; (repeat refine an ?_); (try refine .inl ?_); apply k0; clear k0; simp only [zP, E])
   refine ad ?_
   refine ⟨by simp only [zP, M, E]; exact rfl, rfl, ?_, rfl⟩; (repeat refine ax rfl ?_); exact aM (by exact rfl) hq8
  case b8 => exact bb
  simp only [aC, aA]
  (refine aa rfl fun _ k0 => ?_; simp only [zO, zT, acs, reduceCtorEq, M, E, O, Z, Y, V, Int.toNat_one]; (repeat refine an ?_); (try refine .inl ?_); apply k0; clear k0; simp only [zP, E])
  refine ad ?_
  refine ⟨by simp only [zP, M, E]; exact rfl, rfl, ?_, rfl⟩; (repeat refine ax rfl ?_); exact aM (by exact rfl) hq7
 case b7 => exact bb
 simp only [aC, aA]
 refine ad ?_
 apply k6; clear k6; refine kp [0, 1, 4, 5, 6, 37] ?_
 refine cd (fun hc9 => ?_) (fun hc9 => ?_)
 ·(try simp only [zB, reduceCtorEq] at hc9)
  refine ab fun _ k10 => ?_
  refine af hP hN rfl ?_
  (refine aa rfl fun _ k0 => ?_; simp only [zO, zT, acs, reduceCtorEq, M, E, O, Z, Y, V, Int.toNat_one]; (repeat refine an ?_); (try refine .inl ?_); apply k0; clear k0; simp only [zP, E])
  refine ad ?_
  apply k10; clear k10; refine kp [0, 1, 4, 5, 6, 37] ?_
  refine aq ?_
  refine ⟨by first | exact .inl rfl | exact .inr rfl, _, rfl, ?_⟩; simp only [zP, M, E, Int.toNat_one]
  have hU := aH (cF (R := 60) (S := 45) (I := 3) (r := r) (a := a) (b := b) (U := U) (w := w) (x := .vars 60 [.str r.nm, .list .str r.ins, .list .str r.outs, .int .i64 r.inp, .int .i64 r.st, a, b, .list .str r.sts, .int .i64 (r.rd : Int), .int .i64 r.lf]))
  have hV := aH (c0 (R := 60) (S := 45) (I := 3) (r := r) (a := a) (b := b) (U := U) (l := w.drop 1) (x := .vars 60 [.str r.nm, .list .str r.ins, .list .str r.outs, .int .i64 r.inp, .int .i64 r.st, a, b, .list .str r.sts, .int .i64 (r.rd : Int), .int .i64 r.lf]))
  simp only [ah] at hU hV
  rw [hU]
  first
  | (obtain ⟨hE, hF⟩ := jS (R := 60) (S := 45) (I := 3) (a := a) (b := b) (U := U) hc9
     rw [hE, hF]; all_goals exact ⟨rfl, rfl⟩)
  | (have hn3 : ¬ (r.rd : Int) = 3 := by omega
     have hE := dw hc9
     first
     | rw [if_pos (by omega), if_neg (by rw [‹aY (w.getD 1 []) = false›]; decide)] at hE
     | rw [if_pos (by omega), if_pos (by assumption)] at hE
     | rw [if_neg (by omega), if_pos (by omega)] at hE
     | rw [if_neg (by omega), if_neg (by omega), if_pos (by omega)] at hE
     | rw [if_neg (by omega), if_neg (by omega), if_neg (by omega), if_neg (by omega), if_pos (show ixB r.sts (w.getD 1 []) < 0 by assumption)] at hE
     | rw [if_neg (by omega), if_neg (by omega), if_neg (by omega), if_neg (by omega), if_neg (show ¬ ixB r.sts (w.getD 1 []) < 0 by unfold ixB; omega)] at hE
     obtain ⟨hE, hF⟩ := gl (R := 60) (S := 45) (I := 3) (a := a) (b := b) (U := U) (by omega) hE
     rw [hE, hF]; all_goals exact ⟨rfl, rfl⟩)
  | (obtain ⟨hE, hF⟩ := jX (R := 60) (S := 45) (I := 3) (a := a) (b := b) (U := U) hc9 (by omega)
     rw [hE, hF, hV]; all_goals exact ⟨rfl, rfl⟩)
 (try simp only [zB, reduceCtorEq] at hc9)
 refine au ?_
 apply k5; clear k5; refine kp [0, 1, 4, 5, 6, 37] ?_
 refine ab fun _ k11 => ?_
 refine ab fun _ k12 => ?_
 refine af hP hN rfl ?_
 iterate 4 (refine aa rfl fun _ k0 => ?_; simp only [zO, zT, acs, reduceCtorEq, M, E, O, Z, Y, V, Int.toNat_one]; (repeat refine an ?_); (try refine .inl ?_); apply k0; clear k0; simp only [zP, E])
 refine ad ?_
 apply k12; clear k12; refine kp [0, 1, 4, 5, 6, 37, 41] ?_
 refine aw ?_
 refine ab fun _ k13 => ?_
 refine af hP hN rfl ?_
 iterate 2 (refine aa rfl fun _ k0 => ?_; simp only [zO, zT, acs, reduceCtorEq, M, E, O, Z, Y, V, Int.toNat_one]; (repeat refine an ?_); (try refine .inl ?_); apply k0; clear k0; simp only [zP, E])
 refine ad ?_
 apply k13; clear k13; refine kp [0, 1, 4, 5, 6, 37, 41, 42] ?_
 refine cd (fun hc14 => ?_) (fun hc14 => ?_)
 ·(try simp only [zB, reduceCtorEq] at hc14)
  refine ab fun _ k15 => ?_
  refine af hP hN rfl ?_
  iterate 8 (refine aa rfl fun _ k0 => ?_; simp only [zO, zT, acs, reduceCtorEq, M, E, O, Z, Y, V, Int.toNat_one]; (repeat refine an ?_); (try refine .inl ?_); apply k0; clear k0; simp only [zP, E])
  refine ad ?_
  apply k15; clear k15; refine kp [0, 1, 4, 5, 6, 37, 41, 42] ?_
  refine ab fun _ k16 => ?_
  refine af hP hN rfl ?_
  iterate 3 (refine aa rfl fun _ k0 => ?_; simp only [zO, zT, acs, reduceCtorEq, M, E, O, Z, Y, V, Int.toNat_one]; (repeat refine an ?_); (try refine .inl ?_); apply k0; clear k0; simp only [zP, E])
  refine aa rfl fun _ k0 => ?_
  refine az (h := aj (kD (w.getD 1 []))) rfl rfl (by first | exact rfl | (simp only [ev, zP, M, E]; exact rfl)) (by simp only [zV, acs, reduceCtorEq, M, E, O, Z, Y, V, Int.toNat_one]) ?_
  apply k0; clear k0; simp only [zP, E]
  (refine aa rfl fun _ k0 => ?_; simp only [zO, zT, acs, reduceCtorEq, M, E, O, Z, Y, V, Int.toNat_one]; (repeat refine an ?_); (try refine .inl ?_); apply k0; clear k0; simp only [zP, E])
  refine ad ?_
  apply k16; clear k16; refine kp [0, 1, 4, 5, 6, 37, 41, 42, 55] ?_
  refine cd (fun hc17 => ?_) (fun hc17 => ?_)
  ·(try simp only [zB, reduceCtorEq] at hc17)
   refine ab fun _ k18 => ?_
   refine af hP hN rfl ?_
   (refine aa rfl fun _ k0 => ?_; simp only [zO, zT, acs, reduceCtorEq, M, E, O, Z, Y, V, Int.toNat_one]; (repeat refine an ?_); (try refine .inl ?_); apply k0; clear k0; simp only [zP, E])
   refine ad ?_
   apply k18; clear k18; refine kp [0, 1, 4, 5, 6, 37, 41, 42, 55] ?_
   refine aq ?_
   refine ⟨by first | exact .inl rfl | exact .inr rfl, _, rfl, ?_⟩; simp only [zP, M, E, Int.toNat_one]
   have hU := aH (cF (R := 60) (S := 45) (I := 3) (r := r) (a := a) (b := b) (U := U) (w := w) (x := .vars 60 [.str r.nm, .list .str r.ins, .list .str r.outs, .int .i64 r.inp, .int .i64 r.st, a, b, .list .str r.sts, .int .i64 (r.rd : Int), .int .i64 r.lf]))
   have hV := aH (c0 (R := 60) (S := 45) (I := 3) (r := r) (a := a) (b := b) (U := U) (l := w.drop 1) (x := .vars 60 [.str r.nm, .list .str r.ins, .list .str r.outs, .int .i64 r.inp, .int .i64 r.st, a, b, .list .str r.sts, .int .i64 (r.rd : Int), .int .i64 r.lf]))
   simp only [ah] at hU hV
   rw [hU]
   first
   | (obtain ⟨hE, hF⟩ := jS (R := 60) (S := 45) (I := 3) (a := a) (b := b) (U := U) hc9
      rw [hE, hF]; all_goals exact ⟨rfl, rfl⟩)
   | (have hn3 : ¬ (r.rd : Int) = 3 := by omega
      have hE := dw hc9
      first
      | rw [if_pos (by omega), if_neg (by rw [‹aY (w.getD 1 []) = false›]; decide)] at hE
      | rw [if_pos (by omega), if_pos (by assumption)] at hE
      | rw [if_neg (by omega), if_pos (by omega)] at hE
      | rw [if_neg (by omega), if_neg (by omega), if_pos (by omega)] at hE
      | rw [if_neg (by omega), if_neg (by omega), if_neg (by omega), if_neg (by omega), if_pos (show ixB r.sts (w.getD 1 []) < 0 by assumption)] at hE
      | rw [if_neg (by omega), if_neg (by omega), if_neg (by omega), if_neg (by omega), if_neg (show ¬ ixB r.sts (w.getD 1 []) < 0 by unfold ixB; omega)] at hE
      obtain ⟨hE, hF⟩ := gl (R := 60) (S := 45) (I := 3) (a := a) (b := b) (U := U) (by omega) hE
      rw [hE, hF]; all_goals exact ⟨rfl, rfl⟩)
   | (obtain ⟨hE, hF⟩ := jX (R := 60) (S := 45) (I := 3) (a := a) (b := b) (U := U) hc9 (by omega)
      rw [hE, hF, hV]; all_goals exact ⟨rfl, rfl⟩)
  (try simp only [zB, reduceCtorEq] at hc17)
  refine au ?_
  apply k11; clear k11; refine kp [0, 1, 4, 5, 6, 37, 41, 42, 55] ?_
  refine ab fun _ k19 => ?_
  refine af hP hN rfl ?_
  (refine aa rfl fun _ k0 => ?_; simp only [zO, zT, acs, reduceCtorEq, M, E, O, Z, Y, V, Int.toNat_one]; (repeat refine an ?_); (try refine .inl ?_); apply k0; clear k0; simp only [zP, E])
  refine ad ?_
  apply k19; clear k19; refine kp [0, 1, 4, 5, 6, 37, 41, 42, 55] ?_
  refine aq ?_
  refine ⟨by first | exact .inl rfl | exact .inr rfl, _, rfl, ?_⟩; simp only [zP, M, E, Int.toNat_one]
  have hU := aH (cF (R := 60) (S := 45) (I := 3) (r := r) (a := a) (b := b) (U := U) (w := w) (x := .vars 60 [.str r.nm, .list .str r.ins, .list .str r.outs, .int .i64 r.inp, .int .i64 r.st, a, b, .list .str r.sts, .int .i64 (r.rd : Int), .int .i64 r.lf]))
  have hV := aH (c0 (R := 60) (S := 45) (I := 3) (r := r) (a := a) (b := b) (U := U) (l := w.drop 1) (x := .vars 60 [.str r.nm, .list .str r.ins, .list .str r.outs, .int .i64 r.inp, .int .i64 r.st, a, b, .list .str r.sts, .int .i64 (r.rd : Int), .int .i64 r.lf]))
  simp only [ah] at hU hV
  rw [hU]
  first
  | (obtain ⟨hE, hF⟩ := jS (R := 60) (S := 45) (I := 3) (a := a) (b := b) (U := U) hc9
     rw [hE, hF]; all_goals exact ⟨rfl, rfl⟩)
  | (have hn3 : ¬ (r.rd : Int) = 3 := by omega
     have hE := dw hc9
     first
     | rw [if_pos (by omega), if_neg (by rw [‹aY (w.getD 1 []) = false›]; decide)] at hE
     | rw [if_pos (by omega), if_pos (by assumption)] at hE
     | rw [if_neg (by omega), if_pos (by omega)] at hE
     | rw [if_neg (by omega), if_neg (by omega), if_pos (by omega)] at hE
     | rw [if_neg (by omega), if_neg (by omega), if_neg (by omega), if_neg (by omega), if_pos (show ixB r.sts (w.getD 1 []) < 0 by assumption)] at hE
     | rw [if_neg (by omega), if_neg (by omega), if_neg (by omega), if_neg (by omega), if_neg (show ¬ ixB r.sts (w.getD 1 []) < 0 by unfold ixB; omega)] at hE
     obtain ⟨hE, hF⟩ := gl (R := 60) (S := 45) (I := 3) (a := a) (b := b) (U := U) (by omega) hE
     rw [hE, hF]; all_goals exact ⟨rfl, rfl⟩)
  | (obtain ⟨hE, hF⟩ := jX (R := 60) (S := 45) (I := 3) (a := a) (b := b) (U := U) hc9 (by omega)
     rw [hE, hF, hV]; all_goals exact ⟨rfl, rfl⟩)
 (try simp only [zB, reduceCtorEq] at hc14)
 refine ab fun _ k20 => ?_
 refine af hP hN rfl ?_
 iterate 2 (refine aa rfl fun _ k0 => ?_; simp only [zO, zT, acs, reduceCtorEq, M, E, O, Z, Y, V, Int.toNat_one]; (repeat refine an ?_); (try refine .inl ?_); apply k0; clear k0; simp only [zP, E])
 refine ad ?_
 apply k20; clear k20; refine kp [0, 1, 4, 5, 6, 37, 41, 42, 56] ?_
 refine cd (fun hc21 => ?_) (fun hc21 => ?_)
 ·(try simp only [zB, reduceCtorEq] at hc21)
  refine ab fun _ k22 => ?_
  refine af hP hN rfl ?_
  iterate 2 (refine aa rfl fun _ k0 => ?_; simp only [zO, zT, acs, reduceCtorEq, M, E, O, Z, Y, V, Int.toNat_one, aG]; (repeat refine an ?_); (try refine .inl ?_); apply k0; clear k0; simp only [zP, E])
  (refine aa rfl fun _ k0 => ?_; simp only [zE, op1, ev, lkp, cT, bq, cg, bnd, Ty.size, ia, cp, dN, Nat.mul_one, bB, bg, ba, acs, Ty.dflt, zG, reduceCtorEq, M, E, O, Z, Y, V, Tryz.el22, Tryz.st24, Tryz.st29, Tryz.st60, Tryz.td1, Tryz.td22, Tryz.td24, Tryz.td29, Tryz.td58, Tryz.td60, Int.toNat_one, aG]; (repeat refine an ?_); (try refine .inl ?_); apply k0; clear k0; simp only [zP, E])
  iterate 5 (refine aa rfl fun _ k0 => ?_; simp only [zO, zT, acs, reduceCtorEq, M, E, O, Z, Y, V, Int.toNat_one, aG]; (repeat refine an ?_); (try refine .inl ?_); apply k0; clear k0; simp only [zP, E])
  refine ad ?_
  apply k22; clear k22; refine kp [0, 1, 4, 5, 6, 37, 41, 42, 56] ?_
  refine ab fun _ k23 => ?_
  refine af hP hN rfl ?_
  iterate 5 (refine aa rfl fun _ k0 => ?_; simp only [zO, zT, acs, reduceCtorEq, M, E, O, Z, Y, V, Int.toNat_one]; (repeat refine an ?_); (try refine .inl ?_); apply k0; clear k0; simp only [zP, E])
  refine aa rfl fun _ k0 => ?_
  refine az (h := aj (im (w.drop 1))) rfl rfl (by first | exact rfl | (simp only [ev, zP, M, E]; exact rfl)) (by simp only [zV, acs, reduceCtorEq, M, E, O, Z, Y, V, Int.toNat_one]) ?_
  apply k0; clear k0; simp only [zP, E]
  (refine aa rfl fun _ k0 => ?_; simp only [zO, zT, acs, reduceCtorEq, M, E, O, Z, Y, V, Int.toNat_one]; (repeat refine an ?_); (try refine .inl ?_); apply k0; clear k0; simp only [zP, E])
  refine ad ?_
  apply k23; clear k23; refine kp [0, 1, 4, 5, 6, 37, 41, 42, 56] ?_
  refine aq ?_
  refine ⟨by first | exact .inl rfl | exact .inr rfl, _, rfl, ?_⟩; simp only [zP, M, E, Int.toNat_one]
  have hU := aH (cF (R := 60) (S := 45) (I := 3) (r := r) (a := a) (b := b) (U := U) (w := w) (x := .vars 60 [.str r.nm, .list .str r.ins, .list .str r.outs, .int .i64 r.inp, .int .i64 r.st, a, b, .list .str r.sts, .int .i64 (r.rd : Int), .int .i64 r.lf]))
  have hV := aH (c0 (R := 60) (S := 45) (I := 3) (r := r) (a := a) (b := b) (U := U) (l := w.drop 1) (x := .vars 60 [.str r.nm, .list .str r.ins, .list .str r.outs, .int .i64 r.inp, .int .i64 r.st, a, b, .list .str r.sts, .int .i64 (r.rd : Int), .int .i64 r.lf]))
  simp only [ah] at hU hV
  rw [hU]
  first
  | (obtain ⟨hE, hF⟩ := jS (R := 60) (S := 45) (I := 3) (a := a) (b := b) (U := U) hc9
     rw [hE, hF]; all_goals exact ⟨rfl, rfl⟩)
  | (have hn3 : ¬ (r.rd : Int) = 3 := by omega
     have hE := dw hc9
     first
     | rw [if_pos (by omega), if_neg (by rw [‹aY (w.getD 1 []) = false›]; decide)] at hE
     | rw [if_pos (by omega), if_pos (by assumption)] at hE
     | rw [if_neg (by omega), if_pos (by omega)] at hE
     | rw [if_neg (by omega), if_neg (by omega), if_pos (by omega)] at hE
     | rw [if_neg (by omega), if_neg (by omega), if_neg (by omega), if_neg (by omega), if_pos (show ixB r.sts (w.getD 1 []) < 0 by assumption)] at hE
     | rw [if_neg (by omega), if_neg (by omega), if_neg (by omega), if_neg (by omega), if_neg (show ¬ ixB r.sts (w.getD 1 []) < 0 by unfold ixB; omega)] at hE
     obtain ⟨hE, hF⟩ := gl (R := 60) (S := 45) (I := 3) (a := a) (b := b) (U := U) (by omega) hE
     rw [hE, hF]; all_goals exact ⟨rfl, rfl⟩)
  | (obtain ⟨hE, hF⟩ := jX (R := 60) (S := 45) (I := 3) (a := a) (b := b) (U := U) hc9 (by omega)
     rw [hE, hF, hV]; all_goals exact ⟨rfl, rfl⟩)
 (try simp only [zB, reduceCtorEq] at hc21)
 refine ab fun _ k24 => ?_
 refine af hP hN rfl ?_
 iterate 2 (refine aa rfl fun _ k0 => ?_; simp only [zO, zT, acs, reduceCtorEq, M, E, O, Z, Y, V, Int.toNat_one]; (repeat refine an ?_); (try refine .inl ?_); apply k0; clear k0; simp only [zP, E])
 refine ad ?_
 apply k24; clear k24; refine kp [0, 1, 4, 5, 6, 37, 41, 42, 56, 71] ?_
 refine cd (fun hc25 => ?_) (fun hc25 => ?_)
 ·(try simp only [zB, reduceCtorEq] at hc25)
  refine ab fun _ k26 => ?_
  refine af hP hN rfl ?_
  iterate 2 (refine aa rfl fun _ k0 => ?_; simp only [zO, zT, acs, reduceCtorEq, M, E, O, Z, Y, V, Int.toNat_one, aG]; (repeat refine an ?_); (try refine .inl ?_); apply k0; clear k0; simp only [zP, E])
  (refine aa rfl fun _ k0 => ?_; simp only [zE, op1, ev, lkp, cT, bq, cg, bnd, Ty.size, ia, cp, dN, Nat.mul_one, bB, bg, ba, acs, Ty.dflt, zG, reduceCtorEq, M, E, O, Z, Y, V, Tryz.el22, Tryz.st24, Tryz.st29, Tryz.st60, Tryz.td2, Tryz.td22, Tryz.td24, Tryz.td29, Tryz.td58, Tryz.td60, Int.toNat_one, aG]; (repeat refine an ?_); (try refine .inl ?_); apply k0; clear k0; simp only [zP, E])
  iterate 5 (refine aa rfl fun _ k0 => ?_; simp only [zO, zT, acs, reduceCtorEq, M, E, O, Z, Y, V, Int.toNat_one, aG]; (repeat refine an ?_); (try refine .inl ?_); apply k0; clear k0; simp only [zP, E])
  refine ad ?_
  apply k26; clear k26; refine kp [0, 1, 4, 5, 6, 37, 41, 42, 56, 71] ?_
  refine ab fun _ k27 => ?_
  refine af hP hN rfl ?_
  iterate 5 (refine aa rfl fun _ k0 => ?_; simp only [zO, zT, acs, reduceCtorEq, M, E, O, Z, Y, V, Int.toNat_one]; (repeat refine an ?_); (try refine .inl ?_); apply k0; clear k0; simp only [zP, E])
  refine aa rfl fun _ k0 => ?_
  refine az (h := aj (im (w.drop 1))) rfl rfl (by first | exact rfl | (simp only [ev, zP, M, E]; exact rfl)) (by simp only [zV, acs, reduceCtorEq, M, E, O, Z, Y, V, Int.toNat_one]) ?_
  apply k0; clear k0; simp only [zP, E]
  (refine aa rfl fun _ k0 => ?_; simp only [zO, zT, acs, reduceCtorEq, M, E, O, Z, Y, V, Int.toNat_one]; (repeat refine an ?_); (try refine .inl ?_); apply k0; clear k0; simp only [zP, E])
  refine ad ?_
  apply k27; clear k27; refine kp [0, 1, 4, 5, 6, 37, 41, 42, 56, 71] ?_
  refine aq ?_
  refine ⟨by first | exact .inl rfl | exact .inr rfl, _, rfl, ?_⟩; simp only [zP, M, E, Int.toNat_one]
  have hU := aH (cF (R := 60) (S := 45) (I := 3) (r := r) (a := a) (b := b) (U := U) (w := w) (x := .vars 60 [.str r.nm, .list .str r.ins, .list .str r.outs, .int .i64 r.inp, .int .i64 r.st, a, b, .list .str r.sts, .int .i64 (r.rd : Int), .int .i64 r.lf]))
  have hV := aH (c0 (R := 60) (S := 45) (I := 3) (r := r) (a := a) (b := b) (U := U) (l := w.drop 1) (x := .vars 60 [.str r.nm, .list .str r.ins, .list .str r.outs, .int .i64 r.inp, .int .i64 r.st, a, b, .list .str r.sts, .int .i64 (r.rd : Int), .int .i64 r.lf]))
  simp only [ah] at hU hV
  rw [hU]
  first
  | (obtain ⟨hE, hF⟩ := jS (R := 60) (S := 45) (I := 3) (a := a) (b := b) (U := U) hc9
     rw [hE, hF]; all_goals exact ⟨rfl, rfl⟩)
  | (have hn3 : ¬ (r.rd : Int) = 3 := by omega
     have hE := dw hc9
     first
     | rw [if_pos (by omega), if_neg (by rw [‹aY (w.getD 1 []) = false›]; decide)] at hE
     | rw [if_pos (by omega), if_pos (by assumption)] at hE
     | rw [if_neg (by omega), if_pos (by omega)] at hE
     | rw [if_neg (by omega), if_neg (by omega), if_pos (by omega)] at hE
     | rw [if_neg (by omega), if_neg (by omega), if_neg (by omega), if_neg (by omega), if_pos (show ixB r.sts (w.getD 1 []) < 0 by assumption)] at hE
     | rw [if_neg (by omega), if_neg (by omega), if_neg (by omega), if_neg (by omega), if_neg (show ¬ ixB r.sts (w.getD 1 []) < 0 by unfold ixB; omega)] at hE
     obtain ⟨hE, hF⟩ := gl (R := 60) (S := 45) (I := 3) (a := a) (b := b) (U := U) (by omega) hE
     rw [hE, hF]; all_goals exact ⟨rfl, rfl⟩)
  | (obtain ⟨hE, hF⟩ := jX (R := 60) (S := 45) (I := 3) (a := a) (b := b) (U := U) hc9 (by omega)
     rw [hE, hF, hV]; all_goals exact ⟨rfl, rfl⟩)
 (try simp only [zB, reduceCtorEq] at hc25)
 refine ab fun _ k28 => ?_
 refine af hP hN rfl ?_
 iterate 2 (refine aa rfl fun _ k0 => ?_; simp only [zO, zT, acs, reduceCtorEq, M, E, O, Z, Y, V, Int.toNat_one]; (repeat refine an ?_); (try refine .inl ?_); apply k0; clear k0; simp only [zP, E])
 refine ad ?_
 apply k28; clear k28; refine kp [0, 1, 4, 5, 6, 37, 41, 42, 56, 71, 86] ?_
 refine cd (fun hc29 => ?_) (fun hc29 => ?_)
 ·(try simp only [zB, reduceCtorEq] at hc29)
  refine ab fun _ k30 => ?_
  refine af hP hN rfl ?_
  iterate 2 (refine aa rfl fun _ k0 => ?_; simp only [zO, zT, acs, reduceCtorEq, M, E, O, Z, Y, V, Int.toNat_one, aG]; (repeat refine an ?_); (try refine .inl ?_); apply k0; clear k0; simp only [zP, E])
  (refine aa rfl fun _ k0 => ?_; simp only [zE, op1, ev, lkp, cT, bq, cg, bnd, Ty.size, reduceCtorEq, M, E, O, Z, Y, V, Tryz.el22, Tryz.td22, Tryz.td58, Int.toNat_one, aG]; (repeat refine an ?_); (try refine .inl ?_); apply k0; clear k0; simp only [zP, E])
  refine aa rfl fun _ k0 => ?_
  refine az (h := t0 r a b U (w.drop 1) (by rw [List.length_drop]; omega) (hi (by omega))) rfl rfl (by first | exact rfl | (simp only [ev, zP, M, E]; exact rfl)) (by simp only [zV, acs, reduceCtorEq, M, E, O, Z, Y, V, Int.toNat_one, aG]) ?_
  apply k0; clear k0; simp only [zP, E]
  (refine aa rfl fun _ k0 => ?_; simp only [zO, zT, acs, reduceCtorEq, M, E, O, Z, Y, V, Int.toNat_one, aG]; (repeat refine an ?_); (try refine .inl ?_); apply k0; clear k0; simp only [zP, E])
  refine ad ?_
  apply k30; clear k30; refine kp [0, 1, 4, 5, 6, 37, 41, 42, 56, 71, 86] ?_
  refine aq ?_
  refine ⟨by first | exact .inl rfl | exact .inr rfl, _, rfl, ?_⟩; simp only [zP, M, E, Int.toNat_one]
  have hU := aH (cF (R := 60) (S := 45) (I := 3) (r := r) (a := a) (b := b) (U := U) (w := w) (x := .vars 60 [.str r.nm, .list .str r.ins, .list .str r.outs, .int .i64 r.inp, .int .i64 r.st, a, b, .list .str r.sts, .int .i64 (r.rd : Int), .int .i64 r.lf]))
  have hV := aH (c0 (R := 60) (S := 45) (I := 3) (r := r) (a := a) (b := b) (U := U) (l := w.drop 1) (x := .vars 60 [.str r.nm, .list .str r.ins, .list .str r.outs, .int .i64 r.inp, .int .i64 r.st, a, b, .list .str r.sts, .int .i64 (r.rd : Int), .int .i64 r.lf]))
  simp only [ah] at hU hV
  rw [hU]
  first
  | (obtain ⟨hE, hF⟩ := jS (R := 60) (S := 45) (I := 3) (a := a) (b := b) (U := U) hc9
     rw [hE, hF]; all_goals exact ⟨rfl, rfl⟩)
  | (have hn3 : ¬ (r.rd : Int) = 3 := by omega
     have hE := dw hc9
     first
     | rw [if_pos (by omega), if_neg (by rw [‹aY (w.getD 1 []) = false›]; decide)] at hE
     | rw [if_pos (by omega), if_pos (by assumption)] at hE
     | rw [if_neg (by omega), if_pos (by omega)] at hE
     | rw [if_neg (by omega), if_neg (by omega), if_pos (by omega)] at hE
     | rw [if_neg (by omega), if_neg (by omega), if_neg (by omega), if_neg (by omega), if_pos (show ixB r.sts (w.getD 1 []) < 0 by assumption)] at hE
     | rw [if_neg (by omega), if_neg (by omega), if_neg (by omega), if_neg (by omega), if_neg (show ¬ ixB r.sts (w.getD 1 []) < 0 by unfold ixB; omega)] at hE
     obtain ⟨hE, hF⟩ := gl (R := 60) (S := 45) (I := 3) (a := a) (b := b) (U := U) (by omega) hE
     rw [hE, hF]; all_goals exact ⟨rfl, rfl⟩)
  | (obtain ⟨hE, hF⟩ := jX (R := 60) (S := 45) (I := 3) (a := a) (b := b) (U := U) hc9 (by omega)
     rw [hE, hF, hV]; all_goals exact ⟨rfl, rfl⟩)
 (try simp only [zB, reduceCtorEq] at hc29)
 refine ab fun _ k31 => ?_
 refine af hP hN rfl ?_
 iterate 2 (refine aa rfl fun _ k0 => ?_; simp only [zO, zT, acs, reduceCtorEq, M, E, O, Z, Y, V, Int.toNat_one]; (repeat refine an ?_); (try refine .inl ?_); apply k0; clear k0; simp only [zP, E])
 refine ad ?_
 apply k31; clear k31; refine kp [0, 1, 4, 5, 6, 37, 41, 42, 56, 71, 86, 92] ?_
 refine cd (fun hc32 => ?_) (fun hc32 => ?_)
 ·(try simp only [zB, reduceCtorEq] at hc32)
  refine ab fun _ k33 => ?_
  refine bI hP hN Tryz.mixed rfl ?_
  iterate 8 (refine aa rfl fun _ k0 => ?_; simp only [zO, zT, acs, reduceCtorEq, M, E, O, Z, Y, V, Int.toNat_one]; (repeat refine an ?_); (try refine .inl ?_); apply k0; clear k0; simp only [zP, E])
  refine aa rfl fun _ k0 => ?_
  refine az (h := aj (fc r.sts (w.getD 1 []))) rfl rfl (by first | exact rfl | (simp only [ev, zP, M, E]; exact rfl)) (by simp only [zV, acs, reduceCtorEq, M, E, O, Z, Y, V, Int.toNat_one]) ?_
  apply k0; clear k0; simp only [zP, E]
  iterate 5 (refine aa rfl fun _ k0 => ?_; simp only [zO, zT, acs, reduceCtorEq, M, E, O, Z, Y, V, Int.toNat_one]; (repeat refine an ?_); (try refine .inl ?_); apply k0; clear k0; simp only [zP, E])
  refine ad ?_
  refine ⟨by kernel_rfl, ?_⟩
  apply k33; clear k33; refine kp [0, 1, 4, 5, 6, 37, 41, 42, 56, 71, 86, 92] ?_
  refine ab fun _ k34 => ?_
  refine af hP hN rfl ?_
  iterate 7 (refine aa rfl fun _ k0 => ?_; simp only [zO, zT, acs, reduceCtorEq, M, E, O, Z, Y, V, Int.toNat_one]; (repeat refine an ?_); (try refine .inl ?_); apply k0; clear k0; simp only [zP, E])
  refine ad ?_
  apply k34; clear k34; refine kp [0, 1, 4, 5, 6, 37, 41, 42, 56, 71, 86, 92, 113] ?_
  refine cd (fun hc35 => ?_) (fun hc35 => ?_)
  ·(try simp only [zB, reduceCtorEq] at hc35)
   refine ab fun _ k36 => ?_
   refine af hP hN rfl ?_
   (refine aa rfl fun _ k0 => ?_; simp only [zO, zT, acs, reduceCtorEq, M, E, O, Z, Y, V, Int.toNat_one]; (repeat refine an ?_); (try refine .inl ?_); apply k0; clear k0; simp only [zP, E])
   refine ad ?_
   apply k36; clear k36; refine kp [0, 1, 4, 5, 6, 37, 41, 42, 56, 71, 86, 92, 113] ?_
   refine aq ?_
   refine ⟨by first | exact .inl rfl | exact .inr rfl, _, rfl, ?_⟩; simp only [zP, M, E, Int.toNat_one]
   have hU := aH (cF (R := 60) (S := 45) (I := 3) (r := r) (a := a) (b := b) (U := U) (w := w) (x := .vars 60 [.str r.nm, .list .str r.ins, .list .str r.outs, .int .i64 r.inp, .int .i64 r.st, a, b, .list .str r.sts, .int .i64 (r.rd : Int), .int .i64 r.lf]))
   have hV := aH (c0 (R := 60) (S := 45) (I := 3) (r := r) (a := a) (b := b) (U := U) (l := w.drop 1) (x := .vars 60 [.str r.nm, .list .str r.ins, .list .str r.outs, .int .i64 r.inp, .int .i64 r.st, a, b, .list .str r.sts, .int .i64 (r.rd : Int), .int .i64 r.lf]))
   simp only [ah] at hU hV
   rw [hU]
   first
   | (obtain ⟨hE, hF⟩ := jS (R := 60) (S := 45) (I := 3) (a := a) (b := b) (U := U) hc9
      rw [hE, hF]; all_goals exact ⟨rfl, rfl⟩)
   | (have hn3 : ¬ (r.rd : Int) = 3 := by omega
      have hE := dw hc9
      first
      | rw [if_pos (by omega), if_neg (by rw [‹aY (w.getD 1 []) = false›]; decide)] at hE
      | rw [if_pos (by omega), if_pos (by assumption)] at hE
      | rw [if_neg (by omega), if_pos (by omega)] at hE
      | rw [if_neg (by omega), if_neg (by omega), if_pos (by omega)] at hE
      | rw [if_neg (by omega), if_neg (by omega), if_neg (by omega), if_neg (by omega), if_pos (show ixB r.sts (w.getD 1 []) < 0 by assumption)] at hE
      | rw [if_neg (by omega), if_neg (by omega), if_neg (by omega), if_neg (by omega), if_neg (show ¬ ixB r.sts (w.getD 1 []) < 0 by unfold ixB; omega)] at hE
      obtain ⟨hE, hF⟩ := gl (R := 60) (S := 45) (I := 3) (a := a) (b := b) (U := U) (by omega) hE
      rw [hE, hF]; all_goals exact ⟨rfl, rfl⟩)
   | (obtain ⟨hE, hF⟩ := jX (R := 60) (S := 45) (I := 3) (a := a) (b := b) (U := U) hc9 (by omega)
      rw [hE, hF, hV]; all_goals exact ⟨rfl, rfl⟩)
  (try simp only [zB, reduceCtorEq] at hc35)
  refine au ?_
  apply k11; clear k11; refine kp [0, 1, 4, 5, 6, 37, 41, 42, 56, 71, 86, 92, 113] ?_
  refine ab fun _ k37 => ?_
  refine af hP hN rfl ?_
  (refine aa rfl fun _ k0 => ?_; simp only [zO, zT, acs, reduceCtorEq, M, E, O, Z, Y, V, Int.toNat_one]; (repeat refine an ?_); (try refine .inl ?_); apply k0; clear k0; simp only [zP, E])
  refine ad ?_
  apply k37; clear k37; refine kp [0, 1, 4, 5, 6, 37, 41, 42, 56, 71, 86, 92, 113] ?_
  refine aq ?_
  refine ⟨by first | exact .inl rfl | exact .inr rfl, _, rfl, ?_⟩; simp only [zP, M, E, Int.toNat_one]
  have hU := aH (cF (R := 60) (S := 45) (I := 3) (r := r) (a := a) (b := b) (U := U) (w := w) (x := .vars 60 [.str r.nm, .list .str r.ins, .list .str r.outs, .int .i64 r.inp, .int .i64 r.st, a, b, .list .str r.sts, .int .i64 (r.rd : Int), .int .i64 r.lf]))
  have hV := aH (c0 (R := 60) (S := 45) (I := 3) (r := r) (a := a) (b := b) (U := U) (l := w.drop 1) (x := .vars 60 [.str r.nm, .list .str r.ins, .list .str r.outs, .int .i64 r.inp, .int .i64 r.st, a, b, .list .str r.sts, .int .i64 (r.rd : Int), .int .i64 r.lf]))
  simp only [ah] at hU hV
  rw [hU]
  first
  | (obtain ⟨hE, hF⟩ := jS (R := 60) (S := 45) (I := 3) (a := a) (b := b) (U := U) hc9
     rw [hE, hF]; all_goals exact ⟨rfl, rfl⟩)
  | (have hn3 : ¬ (r.rd : Int) = 3 := by omega
     have hE := dw hc9
     first
     | rw [if_pos (by omega), if_neg (by rw [‹aY (w.getD 1 []) = false›]; decide)] at hE
     | rw [if_pos (by omega), if_pos (by assumption)] at hE
     | rw [if_neg (by omega), if_pos (by omega)] at hE
     | rw [if_neg (by omega), if_neg (by omega), if_pos (by omega)] at hE
     | rw [if_neg (by omega), if_neg (by omega), if_neg (by omega), if_neg (by omega), if_pos (show ixB r.sts (w.getD 1 []) < 0 by assumption)] at hE
     | rw [if_neg (by omega), if_neg (by omega), if_neg (by omega), if_neg (by omega), if_neg (show ¬ ixB r.sts (w.getD 1 []) < 0 by unfold ixB; omega)] at hE
     obtain ⟨hE, hF⟩ := gl (R := 60) (S := 45) (I := 3) (a := a) (b := b) (U := U) (by omega) hE
     rw [hE, hF]; all_goals exact ⟨rfl, rfl⟩)
  | (obtain ⟨hE, hF⟩ := jX (R := 60) (S := 45) (I := 3) (a := a) (b := b) (U := U) hc9 (by omega)
     rw [hE, hF, hV]; all_goals exact ⟨rfl, rfl⟩)
 · exfalso; (try simp only [zB, reduceCtorEq] at hc32); all_goals (first | (cases hc32; done) | omega | (simp at hc32; done) | (simp_all; done))
theorem tE (r : RS) (w : List Bs) (hl : w.length ≤ 1000000) (h0 : 0 < w.length) (hr : r.rd < 5) (hk : LOK r) : dW Tryz.prog (SH 60 45 3 r) 49 [.one (.ptr 0 0 0 0), .one (.list .str w)] { av := .one (.int .i64 (bh r w).2), upd := eZ (SH 60 45 3 r).length (SH 60 45 3 (bh r w).1), new := (SH 60 45 3 (bh r w).1).drop (SH 60 45 3 r).length, fp := List.range (SH 60 45 3 r).length } := by
  rw [← mv (r := r) (w := w) fun e => (hk.h3 e).1]
  exact tG r (rdA r) (rdB r) (rdT 45 3 r) w hl h0 hr fun e => (hk.h3 e).2
theorem lV (xs : List Bs) (x : Bs) : bz Tryz.prog 65 [.agg [.list .str xs], .one (.str x)] (.tup [.one (.int .i64 (idA xs x)), .one (.bool (decide (x ∈ xs)))]) := by
 refine aL Tryz.func65 rfl (by kernel_rfl) (Nat.le_of_ble_eq_true rfl) rfl fun C hP hN hB => ?_
 replace hN : C.N = 15 := hN
 simp only [aO, E]
 refine ab fun _ k1 => ?_
 refine af hP hN rfl ?_
 iterate 3 (refine aa rfl fun _ k0 => ?_; simp only [zO, zT, acs, reduceCtorEq, M, E, O, Z, Y, V]; (repeat refine an ?_); (try refine .inl ?_); apply k0; clear k0; simp only [zP, E])
 refine ad ?_
 apply k1; clear k1; refine kp [0, 1, 2, 4, 5] ?_
 refine ab fun _ k2 => ?_
 refine af hP hN rfl ?_
 iterate 3 (refine aa rfl fun _ k0 => ?_; simp only [zO, zT, acs, reduceCtorEq, M, E, O, Z, Y, V]; (repeat refine an ?_); (try refine .inl ?_); apply k0; clear k0; simp only [zP, E])
 refine aa rfl fun _ k0 => ?_
 refine az (h := aj (fc xs x)) rfl rfl (by first | exact rfl | (simp only [ev, zP, M, E]; exact rfl)) (by simp only [zV, acs, reduceCtorEq, M, E, O, Z, Y, V]) ?_
 apply k0; clear k0; simp only [zP, E]
 (refine aa rfl fun _ k0 => ?_; simp only [zO, zT, acs, reduceCtorEq, M, E, O, Z, Y, V]; (repeat refine an ?_); (try refine .inl ?_); apply k0; clear k0; simp only [zP, E])
 refine ad ?_
 apply k2; clear k2; refine kp [0, 1, 2, 4, 5, 6] ?_
 refine ab fun _ k3 => ?_
 refine af hP hN rfl ?_
 iterate 6 (refine aa rfl fun _ k0 => ?_; simp only [zO, zT, acs, reduceCtorEq, M, E, O, Z, Y, V]; (repeat refine an ?_); (try refine .inl ?_); apply k0; clear k0; simp only [zP, E])
 refine ad ?_
 apply k3; clear k3; refine kp [0, 1, 2, 4, 5, 6] ?_
 refine aq ?_
 refine ⟨nr, _, rfl, ?_⟩; simp only [zF, zP, M, E]
 refine VLE.of_eq ?_
 unfold idA
 by_cases h : x ∈ xs
 · simp [h]
 · simp [h]; decide
set_option maxHeartbeats 1000000 in
theorem uB (r : RS) (w : List Bs) (hk : ROK r) (hl : w.length ≤ 1000000) (hol : r.outs.length ≤ 1000000) : dW Tryz.prog (RT 60 45 3 r) 50 [.one (.ptr 0 0 0 0), .one (.list .str w)] { av := .one (.int .i64 (bP r w).2), upd := eZ (RT 60 45 3 r).length (RT 60 45 3 (bP r w).1), new := (RT 60 45 3 (bP r w).1).drop (RT 60 45 3 r).length, fp := List.range (RT 60 45 3 r).length } := by
 refine fi _ _ Tryz.func50 rfl (by kernel_rfl) (Nat.le_of_ble_eq_true rfl) (by intro k hk; exact List.mem_range.2 hk) (fun C hP hN hB => ?_)
 replace hB : C.bL.length = (RT 60 45 3 r).length := by rw [hB]; skip
 replace hN : C.N = 114 := hN
 simp only [aO, E]
 refine ab fun _ k1 => ?_
 refine af hP hN rfl ?_
 (refine aa rfl fun _ k0 => ?_; simp only [zO, zT, acs, reduceCtorEq, M, E, O, Z, Y, V, Int.toNat_one, Int.reduceToNat]; (repeat refine an ?_); (try refine .inl ?_); apply k0; clear k0; simp only [zP, E])
 refine ad ?_
 apply k1; clear k1; refine kp [0, 1, 4] ?_
 refine ab fun _ k2 => ?_
 refine ab fun _ k3 => ?_
 refine af hP hN rfl ?_
 iterate 3 (refine aa rfl fun _ k0 => ?_; simp only [zO, zT, acs, reduceCtorEq, M, E, O, Z, Y, V, Int.toNat_one, Int.reduceToNat]; (repeat refine an ?_); (try refine .inl ?_); apply k0; clear k0; simp only [zP, E])
 refine ad ?_
 apply k3; clear k3; refine kp [0, 1, 4, 13] ?_
 refine cd (fun hc4 => ?_) (fun hc4 => ?_)
 ·(try simp only [zB, reduceCtorEq] at hc4)
  refine ab fun _ k5 => ?_
  refine af hP hN rfl ?_
  (refine aa rfl fun _ k0 => ?_; simp only [zO, zT, acs, reduceCtorEq, M, E, O, Z, Y, V, Int.toNat_one, Int.reduceToNat]; (repeat refine an ?_); (try refine .inl ?_); apply k0; clear k0; simp only [zP, E])
  refine ad ?_
  apply k5; clear k5; refine kp [0, 1, 4, 13] ?_
  refine aq ?_
  refine ⟨by first | exact .inl rfl | exact .inr rfl, _, rfl, ?_⟩; simp only [zP, M, E, Int.toNat_one, Int.reduceToNat]
  have hU := aH (iV 60 45 3 r w)
  rw [hU]
  first
  | (rw [nH (by assumption)]; all_goals exact ⟨rfl, rfl⟩)
  | (rw [nD (by assumption) (j3 hbad)]; all_goals exact ⟨rfl, rfl⟩)
  | (rw [nX (by assumption) hm0 hm3 hm1 hm2 (by omega)]; all_goals exact ⟨rfl, rfl⟩)
  | (rw [lC (by assumption) hm0 hm3 hm1 hm2 (by omega)]; subst hr2; subst hr1; all_goals exact ⟨rfl, rfl⟩)
 (try simp only [zB, reduceCtorEq] at hc4)
 refine au ?_
 apply k2; clear k2; refine kp [0, 1, 4, 13] ?_
 refine ab fun _ k6 => ?_
 refine bI hP hN Tryz.mixed rfl ?_
 iterate 7 (refine aa rfl fun _ k0 => ?_; simp only [zO, zT, acs, reduceCtorEq, M, E, O, Z, Y, V, Int.toNat_one, Int.reduceToNat, eC, rdC]; (repeat refine an ?_); (try refine .inl ?_); apply k0; clear k0; simp only [zP, E])
 refine aa rfl fun _ k0 => ?_
 refine az (h := aj (fc r.sts (w.getD 0 []))) rfl rfl (by first | exact rfl | (simp only [ev, zP, M, E]; exact rfl)) (by simp only [zV, acs, reduceCtorEq, M, E, O, Z, Y, V, Int.toNat_one, Int.reduceToNat, eC, rdC]) ?_
 apply k0; clear k0; simp only [zP, E]
 iterate 7 (refine aa rfl fun _ k0 => ?_; simp only [zO, zT, acs, reduceCtorEq, M, E, O, Z, Y, V, Int.toNat_one, Int.reduceToNat, eC, rdC]; (repeat refine an ?_); (try refine .inl ?_); apply k0; clear k0; simp only [zP, E])
 refine aa rfl fun _ k0 => ?_
 refine az (h := aj (fc r.sts (w.getD 3 []))) rfl rfl (by first | exact rfl | (simp only [ev, zP, M, E]; exact rfl)) (by simp only [zV, acs, reduceCtorEq, M, E, O, Z, Y, V, Int.toNat_one, Int.reduceToNat, eC, rdC]) ?_
 apply k0; clear k0; simp only [zP, E]
 iterate 2 (refine aa rfl fun _ k0 => ?_; simp only [zO, zT, acs, reduceCtorEq, M, E, O, Z, Y, V, Int.toNat_one, Int.reduceToNat, eC, rdC]; (repeat refine an ?_); (try refine .inl ?_); apply k0; clear k0; simp only [zP, E])
 refine ad ?_
 refine ⟨by kernel_rfl, ?_⟩
 apply k6; clear k6; refine kp [0, 1, 4, 5, 6, 13] ?_
 refine ab fun _ k7 => ?_
 refine bI hP hN Tryz.mixed rfl ?_
 iterate 8 (refine aa rfl fun _ k0 => ?_; simp only [zO, zT, acs, reduceCtorEq, M, E, O, Z, Y, V, Int.toNat_one, Int.reduceToNat, eC, rdC]; (repeat refine an ?_); (try refine .inl ?_); apply k0; clear k0; simp only [zP, E])
 refine aa rfl fun _ k0 => ?_
 refine az (h := aj (lV r.ins (w.getD 1 []))) rfl rfl (by first | exact rfl | (simp only [ev, zP, M, E]; exact rfl)) (by simp only [zV, acs, reduceCtorEq, M, E, O, Z, Y, V, Int.toNat_one, Int.reduceToNat, eC, rdC]) ?_
 apply k0; clear k0; simp only [zP, E]
 iterate 5 (refine aa rfl fun _ k0 => ?_; simp only [zO, zT, acs, reduceCtorEq, M, E, O, Z, Y, V, Int.toNat_one, Int.reduceToNat, eC, rdC]; (repeat refine an ?_); (try refine .inl ?_); apply k0; clear k0; simp only [zP, E])
 refine ad ?_
 refine ⟨by kernel_rfl, ?_⟩
 apply k7; clear k7; refine kp [0, 1, 4, 5, 6, 7, 8, 13] ?_
 refine ab fun _ k8 => ?_
 refine bI hP hN Tryz.mixed rfl ?_
 iterate 8 (refine aa rfl fun _ k0 => ?_; simp only [zO, zT, acs, reduceCtorEq, M, E, O, Z, Y, V, Int.toNat_one, Int.reduceToNat, eC, rdC]; (repeat refine an ?_); (try refine .inl ?_); apply k0; clear k0; simp only [zP, E])
 refine aa rfl fun _ k0 => ?_
 refine az (h := aj (lV r.outs (w.getD 2 []))) rfl rfl (by first | exact rfl | (simp only [ev, zP, M, E]; exact rfl)) (by simp only [zV, acs, reduceCtorEq, M, E, O, Z, Y, V, Int.toNat_one, Int.reduceToNat, eC, rdC]) ?_
 apply k0; clear k0; simp only [zP, E]
 iterate 5 (refine aa rfl fun _ k0 => ?_; simp only [zO, zT, acs, reduceCtorEq, M, E, O, Z, Y, V, Int.toNat_one, Int.reduceToNat, eC, rdC]; (repeat refine an ?_); (try refine .inl ?_); apply k0; clear k0; simp only [zP, E])
 refine ad ?_
 refine ⟨by kernel_rfl, ?_⟩
 apply k8; clear k8; refine kp [0, 1, 4, 5, 6, 7, 8, 9, 10, 13] ?_
 refine ab fun _ k9 => ?_
 refine aw ?_
 refine ab fun _ k10 => ?_
 refine af hP hN rfl ?_
 iterate 3 (refine aa rfl fun _ k0 => ?_; simp only [zO, zT, acs, reduceCtorEq, M, E, O, Z, Y, V, Int.toNat_one, Int.reduceToNat]; (repeat refine an ?_); (try refine .inl ?_); apply k0; clear k0; simp only [zP, E])
 refine' ay (want := false) 2 rfl (m := 57) (by simp only [zP, M, E]; exact rfl) (by kernel_rfl) rfl rfl rfl rfl rfl (fun hg11 => ?a11) ?b11 ?c11
 case a11 =>
  have hq11 := hg11; (try simp only [zB, reduceCtorEq] at hg11); simp only [zE]
  iterate 2 (refine aN rfl fun _ k0 => ?_; simp only [zO, zT, acs, reduceCtorEq, M, E, O, Z, Y, V, Int.toNat_one, Int.reduceToNat]; (repeat refine an ?_); (try refine .inl ?_); apply k0; clear k0; simp only [zP, E])
  (refine aa rfl fun _ k0 => ?_; simp only [zO, zT, acs, reduceCtorEq, M, E, O, Z, Y, V, Int.toNat_one, Int.reduceToNat]; (repeat refine an ?_); (try refine .inl ?_); apply k0; clear k0; simp only [zP, E])
  refine ad ?_
  refine ⟨by simp only [zP, M, E]; exact rfl, rfl, ?_, rfl⟩; (repeat refine ax rfl ?_); exact aM (by exact rfl) hq11
 case b11 => exact bb
 simp only [aC, aA]
 (refine aa rfl fun _ k0 => ?_; simp only [zO, zT, acs, reduceCtorEq, M, E, O, Z, Y, V, Int.toNat_one, Int.reduceToNat]; (repeat refine an ?_); (try refine .inl ?_); apply k0; clear k0; simp only [zP, E])
 refine' ay (want := false) 2 rfl (m := 61) (by simp only [zP, M, E]; exact rfl) (by kernel_rfl) rfl rfl rfl rfl rfl (fun hg12 => ?a12) ?b12 ?c12
 case a12 =>
  have hq12 := hg12; (try simp only [zB, reduceCtorEq] at hg12); simp only [zE]
  iterate 2 (refine aN rfl fun _ k0 => ?_; simp only [zO, zT, acs, reduceCtorEq, M, E, O, Z, Y, V, Int.toNat_one, Int.reduceToNat]; (repeat refine an ?_); (try refine .inl ?_); apply k0; clear k0; simp only [zP, E])
  (refine aa rfl fun _ k0 => ?_; simp only [zO, zT, acs, reduceCtorEq, M, E, O, Z, Y, V, Int.toNat_one, Int.reduceToNat]; (repeat refine an ?_); (try refine .inl ?_); apply k0; clear k0; simp only [zP, E])
  refine ad ?_
  refine ⟨by simp only [zP, M, E]; exact rfl, rfl, ?_, rfl⟩; (repeat refine ax rfl ?_); exact aM (by exact rfl) hq12
 case b12 => exact bb
 simp only [aC, aA]
 (refine aa rfl fun _ k0 => ?_; simp only [zO, zT, acs, reduceCtorEq, M, E, O, Z, Y, V, Int.toNat_one, Int.reduceToNat]; (repeat refine an ?_); (try refine .inl ?_); apply k0; clear k0; simp only [zP, E])
 refine' ay (want := false) 2 rfl (m := 65) (by simp only [zP, M, E]; exact rfl) (by kernel_rfl) rfl rfl rfl rfl rfl (fun hg13 => ?a13) ?b13 ?c13
 case a13 =>
  have hq13 := hg13; (try simp only [zB, reduceCtorEq] at hg13); simp only [zE]
  iterate 2 (refine aN rfl fun _ k0 => ?_; simp only [zO, zT, acs, reduceCtorEq, M, E, O, Z, Y, V, Int.toNat_one, Int.reduceToNat]; (repeat refine an ?_); (try refine .inl ?_); apply k0; clear k0; simp only [zP, E])
  (refine aa rfl fun _ k0 => ?_; simp only [zO, zT, acs, reduceCtorEq, M, E, O, Z, Y, V, Int.toNat_one, Int.reduceToNat]; (repeat refine an ?_); (try refine .inl ?_); apply k0; clear k0; simp only [zP, E])
  refine ad ?_
  refine ⟨by simp only [zP, M, E]; exact rfl, rfl, ?_, rfl⟩; (repeat refine ax rfl ?_); exact aM (by exact rfl) hq13
 case b13 => exact bb
 simp only [aC, aA]
 (refine aa rfl fun _ k0 => ?_; simp only [zO, zT, acs, reduceCtorEq, M, E, O, Z, Y, V, Int.toNat_one, Int.reduceToNat]; (repeat refine an ?_); (try refine .inl ?_); apply k0; clear k0; simp only [zP, E])
 refine ad ?_
 apply k10; clear k10; refine kp [0, 1, 4, 5, 6, 7, 8, 9, 10, 13, 54] ?_
 refine cd (fun hc14 => ?_) (fun hc14 => ?_)
 ·(try simp only [zB, reduceCtorEq] at hc14)
  have hbad := hc14
  refine ab fun _ k15 => ?_
  refine af hP hN rfl ?_
  (refine aa rfl fun _ k0 => ?_; simp only [zO, zT, acs, reduceCtorEq, M, E, O, Z, Y, V, Int.toNat_one, Int.reduceToNat]; (repeat refine an ?_); (try refine .inl ?_); apply k0; clear k0; simp only [zP, E])
  refine ad ?_
  apply k15; clear k15; refine kp [0, 1, 4, 5, 6, 7, 8, 9, 10, 13, 54] ?_
  refine aq ?_
  refine ⟨by first | exact .inl rfl | exact .inr rfl, _, rfl, ?_⟩; simp only [zP, M, E, Int.toNat_one, Int.reduceToNat]
  have hU := aH (iV 60 45 3 r w)
  rw [hU]
  first
  | (rw [nH (by assumption)]; all_goals exact ⟨rfl, rfl⟩)
  | (rw [nD (by assumption) (j3 hbad)]; all_goals exact ⟨rfl, rfl⟩)
  | (rw [nX (by assumption) hm0 hm3 hm1 hm2 (by omega)]; all_goals exact ⟨rfl, rfl⟩)
  | (rw [lC (by assumption) hm0 hm3 hm1 hm2 (by omega)]; subst hr2; subst hr1; all_goals exact ⟨rfl, rfl⟩)
 (try simp only [zB, reduceCtorEq] at hc14)
 have hgd := hc14
 obtain ⟨hm0, hm3, hm1, hm2⟩ := tN hgd
 have hp0 := gR hm0; have hp1 := gR hm1; have hp2 := gR hm2; have hp3 := gR hm3
 have hnl := hk.nl; have hol2 := hk.ol; have hrl := hk.rl (pos r.sts (w.getD 0 [])) (by omega); have hql := hk.ql (pos r.sts (w.getD 0 [])) (by omega)
 have hi9 : idA r.ins (w.getD 1 []) = (pos r.ins (w.getD 1 []) : Int) := if_pos hm1
 have ho9 : idA r.outs (w.getD 2 []) = (pos r.outs (w.getD 2 []) : Int) := if_pos hm2
 refine ab fun _ k16 => ?_
 have hc1 : (ck 2 r.nx.length).getD (pos r.sts (w.getD 0 [])) .junk = .row (2 + pos r.sts (w.getD 0 [])) 0 := kP (by omega)
 have hl2 := uj (R := 60) (S := 45) (I := 3) (r := r) (s := pos r.sts (w.getD 0 [])) (by omega)
 refine af hP hN rfl ?_
 iterate 14 (refine aa rfl fun _ k0 => ?_; simp only [zO, zT, acs, reduceCtorEq, M, E, O, Z, Y, V, Int.toNat_one, Int.reduceToNat, eC, rdC, q9, hm0, hm1, hm2, hm3, if_true, hi9, ho9, aJ, Nat.div_one, hc1, cE, hl2, Nat.mul_one, Nat.add_zero]; (repeat refine an ?_); (try refine .inl ?_); apply k0; clear k0; simp only [zP, E])
 refine ad ?_
 apply k16; clear k16; refine kp [0, 1, 4, 5, 6, 7, 8, 9, 10, 13, 54, 69] ?_
 refine cd (fun hc17 => ?_) (fun hc17 => ?_)
 ·(try simp only [zB, reduceCtorEq] at hc17)
  have hex := hc17
  refine ab fun _ k18 => ?_
  refine af hP hN rfl ?_
  (refine aa rfl fun _ k0 => ?_; simp only [zO, zT, acs, reduceCtorEq, M, E, O, Z, Y, V, Int.toNat_one, Int.reduceToNat]; (repeat refine an ?_); (try refine .inl ?_); apply k0; clear k0; simp only [zP, E])
  refine ad ?_
  apply k18; clear k18; refine kp [0, 1, 4, 5, 6, 7, 8, 9, 10, 13, 54, 69] ?_
  refine aq ?_
  refine ⟨by first | exact .inl rfl | exact .inr rfl, _, rfl, ?_⟩; simp only [zP, M, E, Int.toNat_one, Int.reduceToNat]
  have hU := aH (iV 60 45 3 r w)
  rw [hU]
  first
  | (rw [nH (by assumption)]; all_goals exact ⟨rfl, rfl⟩)
  | (rw [nD (by assumption) (j3 hbad)]; all_goals exact ⟨rfl, rfl⟩)
  | (rw [nX (by assumption) hm0 hm3 hm1 hm2 (by omega)]; all_goals exact ⟨rfl, rfl⟩)
  | (rw [lC (by assumption) hm0 hm3 hm1 hm2 (by omega)]; subst hr2; subst hr1; all_goals exact ⟨rfl, rfl⟩)
 (try simp only [zB, reduceCtorEq] at hc17)
 have hnx := hc17
 refine au ?_
 apply k9; clear k9; refine kp [0, 1, 4, 5, 6, 7, 8, 9, 10, 13, 54, 69] ?_
 refine ab fun _ k19 => ?_
 have hs2 := ux (R := 60) (S := 45) (I := 3) (r := r) (s := pos r.sts (w.getD 0 [])) (by omega) ((r.nx.getD (pos r.sts (w.getD 0 [])) []).set (pos r.ins (w.getD 1 [])) (pos r.sts (w.getD 3 []) : Int))
 obtain ⟨r1, hr1⟩ : ∃ r1, { r with nx := r.nx.set (pos r.sts (w.getD 0 [])) ((r.nx.getD (pos r.sts (w.getD 0 [])) []).set (pos r.ins (w.getD 1 [])) (pos r.sts (w.getD 3 []) : Int)) } = r1 := ⟨_, rfl⟩
 rw [hr1] at hs2
 have hn1 : r1.nx.length = r.nx.length := by rw [← hr1]; simp
 have ho1 : r1.ot = r.ot := by rw [← hr1]
 have hf1 : r1.lf = r.lf := by rw [← hr1]
 have ht0 : (if w.getD 0 [] ∈ r.sts then (pos r.sts (w.getD 0 []) : Int) else -1) = pos r.sts (w.getD 0 []) := if_pos hm0
 have ht3 : (if w.getD 3 [] ∈ r.sts then (pos r.sts (w.getD 3 []) : Int) else -1) = pos r.sts (w.getD 3 []) := if_pos hm3
 rw [ht0, ht3, hi9, ho9]
 refine af hP hN rfl ?_
 iterate 13 (refine aa rfl fun _ k0 => ?_; simp only [zO, zT, acs, reduceCtorEq, M, E, O, Z, Y, V, Int.toNat_one, Int.reduceToNat, eC, rdC, q9, aJ, Nat.div_one, hc1, cE, hl2, Nat.mul_one, Nat.add_zero]; (repeat refine an ?_); (try refine .inl ?_); apply k0; clear k0; simp only [zP, E, hs2])
 refine ad ?_
 apply k19; clear k19; refine kp [0, 1, 4, 5, 6, 7, 8, 9, 10, 13, 54, 69] ?_
 refine ab fun _ k20 => ?_
 have hc4 : (ck (3 + r1.nx.length) r1.ot.length).getD (pos r.sts (w.getD 0 [])) .junk = .row (3 + r1.nx.length + pos r.sts (w.getD 0 [])) 0 := kP (by rw [ho1]; omega)
 have hl4 := uo (R := 60) (S := 45) (I := 3) (r := r1) (s := pos r.sts (w.getD 0 [])) (by rw [ho1]; omega)
 have hs4 := uD (R := 60) (S := 45) (I := 3) (r := r1) (s := pos r.sts (w.getD 0 [])) (by rw [ho1]; omega) ((r1.ot.getD (pos r.sts (w.getD 0 [])) []).set (pos r.ins (w.getD 1 [])) (pos r.outs (w.getD 2 []) : Int))
 have hq1 : (r1.ot.getD (pos r.sts (w.getD 0 [])) []).length = r.ins.length := by rw [ho1]; exact hql
 have hl9 : r1.ot.length = r.sts.length := by rw [ho1]; exact hol2
 obtain ⟨r2, hr2⟩ : ∃ r2, { r1 with ot := r1.ot.set (pos r.sts (w.getD 0 [])) ((r1.ot.getD (pos r.sts (w.getD 0 [])) []).set (pos r.ins (w.getD 1 [])) (pos r.outs (w.getD 2 []) : Int)) } = r2 := ⟨_, rfl⟩
 rw [hr2] at hs4
 have hf2 : r2.lf = r.lf := by rw [← hr2]; exact hf1
 refine af hP hN rfl ?_
 iterate 13 (refine aa rfl fun _ k0 => ?_; simp only [zO, zT, acs, reduceCtorEq, M, E, O, Z, Y, V, Int.toNat_one, Int.reduceToNat, eC, rdC, tl, aJ, Nat.div_one, hc4, cE, hl4, Nat.mul_one, Nat.add_zero]; (repeat refine an ?_); (try refine .inl ?_); apply k0; clear k0; simp only [zP, E, hs4])
 refine ad ?_
 apply k20; clear k20; refine kp [0, 1, 4, 5, 6, 7, 8, 9, 10, 13, 54, 69] ?_
 refine ab fun _ k21 => ?_
 have hlf0 := hk.l0; have hlf1 := hk.l1
 have hs0 := uG (R := 60) (S := 45) (I := 3) (r := r2) (r2.lf - 1)
 refine af hP hN rfl ?_
 iterate 8 (refine aa rfl fun _ k0 => ?_; simp only [zO, zT, acs, reduceCtorEq, M, E, O, Z, Y, V, Int.toNat_one, Int.reduceToNat, eC, rdC]; (repeat refine an ?_); (try refine .inl ?_); apply k0; clear k0; simp only [zP, E, hs0])
 refine ad ?_
 apply k21; clear k21; refine kp [0, 1, 4, 5, 6, 7, 8, 9, 10, 13, 54, 69] ?_
 refine ab fun _ k22 => ?_
 refine af hP hN rfl ?_
 (refine aa rfl fun _ k0 => ?_; simp only [zO, zT, acs, reduceCtorEq, M, E, O, Z, Y, V, Int.toNat_one, Int.reduceToNat]; (repeat refine an ?_); (try refine .inl ?_); apply k0; clear k0; simp only [zP, E])
 refine ad ?_
 apply k22; clear k22; refine kp [0, 1, 4, 5, 6, 7, 8, 9, 10, 13, 54, 69] ?_
 refine aq ?_
 refine ⟨by first | exact .inl rfl | exact .inr rfl, _, rfl, ?_⟩; simp only [zP, M, E, Int.toNat_one, Int.reduceToNat]
 have hU := aH (iV 60 45 3 r w)
 rw [hU]
 first
 | (rw [nH (by assumption)]; all_goals exact ⟨rfl, rfl⟩)
 | (rw [nD (by assumption) (j3 hbad)]; all_goals exact ⟨rfl, rfl⟩)
 | (rw [nX (by assumption) hm0 hm3 hm1 hm2 (by omega)]; all_goals exact ⟨rfl, rfl⟩)
 | (rw [lC (by assumption) hm0 hm3 hm1 hm2 (by omega)]; subst hr2; subst hr1; all_goals exact ⟨rfl, rfl⟩)
theorem uC (r : RS) (w : List Bs) (hl : w.length ≤ 1000000) (hr : 5 ≤ r.rd) (hk : LOK r) : dW Tryz.prog (SH 60 45 3 r) 50 [.one (.ptr 0 0 0 0), .one (.list .str w)] { av := .one (.int .i64 (bP r w).2), upd := eZ (SH 60 45 3 r).length (SH 60 45 3 (bP r w).1), new := (SH 60 45 3 (bP r w).1).drop (SH 60 45 3 r).length, fp := List.range (SH 60 45 3 r).length } := by
  obtain ⟨ht, h1, h2⟩ := hk.h5 hr
  rw [ep ht, ep (oz.trans ht)]
  exact uB r w h1 hl h2
open Go.Shelf in
def Tryz.lays138_ren : Go.Shelf.Ren := ⟨fun | 138 => 84 | 195 => 97 | 218 => 99 | 143 => 85 | 219 => 100 | 217 => 61 | 225 => 108 | 224 => 109 | 267 => 110 | 266 => 81 | 314 => 114 | n => n, fun | 9 => 9 | 3 => 3 | 4 => 4 | 5 => 5 | 0 => 0 | 46 => 103 | 146 => 155 | 51 => 120 | n => n, fun | 1 => 0 | n => n⟩
theorem Tryz.lays138 : Go.Proofs.Lays.n138 Tryz.prog Tryz.lays138_ren := {
  mixed := by kernel_rfl,
  f138 := Tryz.func84.trans (congrArg some (by kernel_rfl)),
  f143 := Tryz.func85.trans (congrArg some (by kernel_rfl)),
  f195 := Tryz.func97.trans (congrArg some (by kernel_rfl)),
  f217 := Tryz.func61.trans (congrArg some (by kernel_rfl)),
  f218 := Tryz.func99.trans (congrArg some (by kernel_rfl)),
  f219 := Tryz.func100.trans (congrArg some (by kernel_rfl)),
  f224 := Tryz.func109.trans (congrArg some (by kernel_rfl)),
  f225 := Tryz.func108.trans (congrArg some (by kernel_rfl)),
  f266 := Tryz.func81.trans (congrArg some (by kernel_rfl)),
  f267 := Tryz.func110.trans (congrArg some (by kernel_rfl)),
  f314 := Tryz.func114.trans (congrArg some (by kernel_rfl)),
  t0 := Tryz.underlying0,
  a0 := Tryz.isAgg0,
  z0 := Tryz.sizeOf0,
  v0 := Tryz.zeroValue0,
  t3 := Tryz.underlying3,
  a3 := Tryz.isAgg3,
  z3 := Tryz.sizeOf3,
  v3 := Tryz.zeroValue3,
  t4 := Tryz.underlying4,
  a4 := Tryz.isAgg4,
  z4 := Tryz.sizeOf4,
  v4 := Tryz.zeroValue4,
  t5 := Tryz.underlying5,
  a5 := Tryz.isAgg5,
  z5 := Tryz.sizeOf5,
  v5 := Tryz.zeroValue5,
  t9 := Tryz.underlying9,
  a9 := Tryz.isAgg9,
  z9 := Tryz.sizeOf9,
  v9 := Tryz.zeroValue9,
  t46 := Tryz.underlying103,
  a46 := Tryz.isAgg103,
  z46 := Tryz.sizeOf103,
  v46 := Tryz.zeroValue103,
  t51 := Tryz.underlying120,
  a51 := Tryz.isAgg120,
  z51 := Tryz.sizeOf120,
  v51 := Tryz.zeroValue120,
  t146 := Tryz.underlying155,
  a146 := Tryz.isAgg155,
  z146 := Tryz.sizeOf155,
  v146 := Tryz.zeroValue155,
  g1 := by kernel_rfl }
theorem tK (s : List UInt8) (c : UInt8) : bz Tryz.prog 84 [.one (.str s), .one (.str [c])] (.one (.int .i64 (Lib.countByte s c : Int))) := by
  refine ⟨⟨Tryz.f84, Tryz.func84, by kernel_rfl, by kernel_rfl⟩, fun C L σ w vs hP hi ha => ?_⟩
  match vs, ha with
  | [v1, v2], ⟨h1, h2, _⟩ =>
  have e1 : v1 = .string ⟨s.toArray⟩ := h1.2
  have e2 := h2.2
  subst e1
  simp only [RC0] at e2
  subst e2
  refine Calls.mono (Any.strings_Count_one Tryz.lays138 ⟨s.toArray⟩ c w) fun e w' hh => ?_
  obtain ⟨e1, e2⟩ := hh
  subst e2
  exact ⟨_, e1, MORE.refl _, rfl, rfl⟩
open Go.Shelf in
def Tryz.lays143_ren : Go.Shelf.Ren := ⟨fun | 143 => 85 | 219 => 100 | 217 => 61 | 225 => 108 | 224 => 109 | 267 => 110 | 266 => 81 | 314 => 114 | n => n, fun | 9 => 9 | 3 => 3 | 4 => 4 | 5 => 5 | 46 => 103 | 146 => 155 | 51 => 120 | n => n, fun | 1 => 0 | n => n⟩
theorem Tryz.lays143 : Go.Proofs.Lays.n143 Tryz.prog Tryz.lays143_ren := {
  mixed := by kernel_rfl,
  f143 := Tryz.func85.trans (congrArg some (by kernel_rfl)),
  f217 := Tryz.func61.trans (congrArg some (by kernel_rfl)),
  f219 := Tryz.func100.trans (congrArg some (by kernel_rfl)),
  f224 := Tryz.func109.trans (congrArg some (by kernel_rfl)),
  f225 := Tryz.func108.trans (congrArg some (by kernel_rfl)),
  f266 := Tryz.func81.trans (congrArg some (by kernel_rfl)),
  f267 := Tryz.func110.trans (congrArg some (by kernel_rfl)),
  f314 := Tryz.func114.trans (congrArg some (by kernel_rfl)),
  t3 := Tryz.underlying3,
  a3 := Tryz.isAgg3,
  z3 := Tryz.sizeOf3,
  v3 := Tryz.zeroValue3,
  t4 := Tryz.underlying4,
  a4 := Tryz.isAgg4,
  z4 := Tryz.sizeOf4,
  v4 := Tryz.zeroValue4,
  t5 := Tryz.underlying5,
  a5 := Tryz.isAgg5,
  z5 := Tryz.sizeOf5,
  v5 := Tryz.zeroValue5,
  t9 := Tryz.underlying9,
  a9 := Tryz.isAgg9,
  z9 := Tryz.sizeOf9,
  v9 := Tryz.zeroValue9,
  t46 := Tryz.underlying103,
  a46 := Tryz.isAgg103,
  z46 := Tryz.sizeOf103,
  v46 := Tryz.zeroValue103,
  t51 := Tryz.underlying120,
  a51 := Tryz.isAgg120,
  z51 := Tryz.sizeOf120,
  v51 := Tryz.zeroValue120,
  t146 := Tryz.underlying155,
  a146 := Tryz.isAgg155,
  z146 := Tryz.sizeOf155,
  v146 := Tryz.zeroValue155,
  g1 := by kernel_rfl }
theorem uf (s : List UInt8) (c : UInt8) : bz Tryz.prog 85 [.one (.str s), .one (.str [c])] (.one (.int .i64 (Lib.indexByte s c))) := by
  refine ⟨⟨Tryz.f85, Tryz.func85, by kernel_rfl, by kernel_rfl⟩, fun C L σ w vs hP hi ha => ?_⟩
  match vs, ha with
  | [v1, v2], ⟨h1, h2, _⟩ =>
  have e1 : v1 = .string ⟨s.toArray⟩ := h1.2
  have e2 := h2.2
  subst e1
  simp only [RC0] at e2
  subst e2
  refine Calls.mono (Any.strings_Index_one Tryz.lays143 ⟨s.toArray⟩ c w) fun e w' hh => ?_
  obtain ⟨e1, e2⟩ := hh
  subst e2
  exact ⟨_, e1, MORE.refl _, rfl, rfl⟩
set_option maxHeartbeats 1000000 in
theorem qH (s : Bs) (c : UInt8) (hs : s.length ≤ 1048576) : bz Tryz.prog 63 [.one (.str s), .one (.str [c]), .one (.int .i64 0), .one (.int .i64 (-1))] (.one (.list .str (spB c s))) := by
 have hcl := rM c s; have hsl := lr c s
 refine aL Tryz.func63 rfl (by kernel_rfl) (Nat.le_of_ble_eq_true rfl) rfl fun C hP hN hB => ?_
 replace hN : C.N = 66 := hN
 simp only [aO, E]
 refine ab fun _ k1 => ?_
 refine af hP hN rfl ?_
 (refine aa rfl fun _ k0 => ?_; simp only [zO, zT, acs, reduceCtorEq, M, E, O, Z, Y, V]; (repeat refine an ?_); (try refine .inl ?_); apply k0; clear k0; simp only [zP, E])
 refine ad ?_
 apply k1; clear k1; refine kp [0, 1, 2, 3, 8] ?_
 refine ab fun _ k2 => ?_
 refine ab fun _ k3 => ?_
 refine af hP hN rfl ?_
 iterate 2 (refine aa rfl fun _ k0 => ?_; simp only [zO, zT, acs, reduceCtorEq, M, E, O, Z, Y, V]; (repeat refine an ?_); (try refine .inl ?_); apply k0; clear k0; simp only [zP, E])
 refine ad ?_
 apply k3; clear k3; refine kp [0, 1, 2, 3, 8, 13] ?_
 refine cd (fun hc4 => ?_) (fun hc4 => ?_)
 · exfalso; (try simp only [zB, reduceCtorEq] at hc4); all_goals (first | (cases hc4; done) | omega | (simp at hc4; done) | (simp_all; done))
 (try simp only [zB, reduceCtorEq] at hc4)
 refine au ?_
 apply k2; clear k2; refine kp [0, 1, 2, 3, 8, 13] ?_
 refine ab fun _ k5 => ?_
 refine ab fun _ k6 => ?_
 refine af hP hN rfl ?_
 iterate 2 (refine aa rfl fun _ k0 => ?_; simp only [zO, zT, acs, reduceCtorEq, M, E, O, Z, Y, V]; (repeat refine an ?_); (try refine .inl ?_); apply k0; clear k0; simp only [zP, E])
 refine ad ?_
 apply k6; clear k6; refine kp [0, 1, 2, 3, 8, 13, 15] ?_
 refine cd (fun hc7 => ?_) (fun hc7 => ?_)
 · exfalso; (try simp only [zB, reduceCtorEq] at hc7); all_goals (first | (cases hc7; done) | omega | (simp at hc7; done) | (simp_all; done))
 (try simp only [zB, reduceCtorEq] at hc7)
 refine au ?_
 apply k5; clear k5; refine kp [0, 1, 2, 3, 8, 13, 15] ?_
 refine ab fun _ k8 => ?_
 refine ab fun _ k9 => ?_
 refine af hP hN rfl ?_
 iterate 2 (refine aa rfl fun _ k0 => ?_; simp only [zO, zT, acs, reduceCtorEq, M, E, O, Z, Y, V]; (repeat refine an ?_); (try refine .inl ?_); apply k0; clear k0; simp only [zP, E])
 refine ad ?_
 apply k9; clear k9; refine kp [0, 1, 2, 3, 8, 13, 15, 20] ?_
 refine cd (fun hc10 => ?_) (fun hc10 => ?_)
 ·(try simp only [zB, reduceCtorEq] at hc10)
  refine af hP hN rfl ?_
  iterate 2 (refine aa rfl fun _ k0 => ?_; simp only [zO, zT, acs, reduceCtorEq, M, E, O, Z, Y, V]; (repeat refine an ?_); (try refine .inl ?_); apply k0; clear k0; simp only [zP, E])
  refine aa rfl fun _ k0 => ?_
  refine az (h := aj (tK s c)) rfl rfl (by first | exact rfl | (simp only [ev, zP, M, E]; exact rfl)) (by simp only [zV, acs, reduceCtorEq, M, E, O, Z, Y, V]) ?_
  apply k0; clear k0; simp only [zP, E]
  iterate 2 (refine aa rfl fun _ k0 => ?_; simp only [zO, zT, acs, reduceCtorEq, M, E, O, Z, Y, V]; (repeat refine an ?_); (try refine .inl ?_); apply k0; clear k0; simp only [zP, E])
  refine ad ?_
  apply k8; clear k8; refine kp [0, 1, 2, 3, 8, 13, 15, 20] ?_
  refine ab fun _ k11 => ?_
  rw [show ((Lib.countByte s c : Nat) : Int) + 1 = (spB c s).length by rw [hsl]; omega]
  refine af hP hN rfl ?_
  iterate 6 (refine aa rfl fun _ k0 => ?_; simp only [zO, zT, acs, reduceCtorEq, M, E, O, Z, Y, V]; (repeat refine an ?_); (try refine .inl ?_); apply k0; clear k0; simp only [zP, E])
  refine ad ?_
  apply k11; clear k11; refine kp [0, 1, 2, 3, 8, 13, 15, 20] ?_
  refine ab fun _ k12 => ?_
  rw [show min ((spB c s).length : Int) ((s.length : Int) + 1) = (spB c s).length by rw [hsl]; omega]
  refine af hP hN rfl ?_
  (refine aa rfl fun _ k0 => ?_; simp only [zO, zT, acs, reduceCtorEq, M, E, O, Z, Y, V]; (repeat refine an ?_); (try refine .inl ?_); apply k0; clear k0; simp only [zP, E])
  (refine aa rfl fun _ k0 => ?_; simp only [zE, op1, ev, lkp, cT, bq, dZ, ba, Ty.size, Ty.dflt, reduceCtorEq, M, E, O, Z, Y, V, Tryz.el22, Tryz.td22, Tryz.td3]; (repeat refine an ?_); (try refine .inl ?_); apply k0; clear k0; simp only [zP, E])
  (refine aa rfl fun _ k0 => ?_; simp only [zO, zT, acs, reduceCtorEq, M, E, O, Z, Y, V]; (repeat refine an ?_); (try refine .inl ?_); apply k0; clear k0; simp only [zP, E])
  refine ad ?_
  apply k12; clear k12; refine kp [0, 1, 2, 3, 8, 9, 13, 15, 20] ?_
  refine ab fun _ k13 => ?_
  refine af hP hN rfl ?_
  iterate 3 (refine aa rfl fun _ k0 => ?_; simp only [zO, zT, acs, reduceCtorEq, M, E, O, Z, Y, V]; (repeat refine an ?_); (try refine .inl ?_); apply k0; clear k0; simp only [zP, E])
  refine ad ?_
  apply k13; clear k13; refine kp [0, 1, 2, 3, 8, 9, 13, 15, 20] ?_
  refine ab fun _ k14 => ?_
  refine af hP hN rfl ?_
  (refine aa rfl fun _ k0 => ?_; simp only [zO, zT, acs, reduceCtorEq, M, E, O, Z, Y, V]; (repeat refine an ?_); (try refine .inl ?_); apply k0; clear k0; simp only [zP, E])
  refine ad ?_
  apply k14; clear k14; refine kp [0, 1, 2, 3, 8, 9, 10, 13, 15, 20] ?_
  refine ab fun _ k15 => ?_
  refine aw ?_
  refine aU (fun n16 s16 => ∃ (k : Nat) (v : Nat) (r : Bs), (k + 1 ≤ (spB c s).length) ∧ (spB c r = (spB c s).drop k) ∧ (r.length ≤ s.length) ∧ n16 = (spB c s).length - k ∧ s16 = { env := [(0, .one (.str r)), (1, .one (.str [c])), (2, .one (.int .i64 0)), (3, .one (.int .i64 (((spB c s).length : Int) - 1))), (8, .one .nils), (9, .one (.row 0 v)), (10, .one (.int .i64 (k : Int)))], L := [.row .str 9 v (pcs (spB c s) k)] }) ?_ ?_
  ·exact ⟨_, _, aB [0, 1, 2, 3, 8, 9, 10], 0, 0, s, by omega, by rw [List.drop_zero], Nat.le_refl _, rfl, by rw [show pcs (spB c s) 0 = List.replicate (spB c s).length [] by unfold pcs; rw [List.take_zero, Nat.sub_zero, ar]]; rfl⟩
  rintro n16 s16 ⟨k, v, r, hk, hr, hrl, rfl, rfl⟩
  refine ab fun _ k17 => ?_
  refine ab fun _ k18 => ?_
  refine af hP hN rfl ?_
  iterate 3 (refine aa rfl fun _ k0 => ?_; simp only [zO, zT, acs, reduceCtorEq, M, E, O, Z, Y, V]; (repeat refine an ?_); (try refine .inl ?_); apply k0; clear k0; simp only [zP, E])
  refine ad ?_
  apply k18; clear k18; refine kp [0, 1, 2, 3, 8, 9, 10, 36] ?_
  refine cd (fun hc19 => ?_) (fun hc19 => ?_)
  ·(try simp only [zB, reduceCtorEq] at hc19)
   refine au ?_
   apply k17; clear k17; refine kp [0, 1, 2, 3, 8, 9, 10, 36] ?_
   refine aw ?_
   refine ab fun _ k20 => ?_
   obtain ⟨h1, h2, h3, h4⟩ := pO (P := spB c s) hr (by omega)
   have hpl := m5 (P := spB c s) (k := k) (by omega)
   refine af hP hN rfl ?_
   iterate 2 (refine aa rfl fun _ k0 => ?_; simp only [zO, zT, acs, reduceCtorEq, M, E, O, Z, Y, V]; (repeat refine an ?_); (try refine .inl ?_); apply k0; clear k0; simp only [zP, E])
   refine aa rfl fun _ k0 => ?_
   refine az (h := aj (uf r c)) rfl rfl (by first | exact rfl | (simp only [ev, zP, M, E]; exact rfl)) (by simp only [zV, acs, reduceCtorEq, M, E, O, Z, Y, V]) ?_
   apply k0; clear k0; simp only [zP, E]
   (refine aa rfl fun _ k0 => ?_; simp only [zO, zT, acs, reduceCtorEq, M, E, O, Z, Y, V]; (repeat refine an ?_); (try refine .inl ?_); apply k0; clear k0; simp only [zP, E])
   refine ad ?_
   apply k20; clear k20; refine kp [0, 1, 2, 3, 8, 9, 10, 11, 36] ?_
   refine ab fun _ k21 => ?_
   refine ab fun _ k22 => ?_
   refine af hP hN rfl ?_
   iterate 2 (refine aa rfl fun _ k0 => ?_; simp only [zO, zT, acs, reduceCtorEq, M, E, O, Z, Y, V]; (repeat refine an ?_); (try refine .inl ?_); apply k0; clear k0; simp only [zP, E])
   refine ad ?_
   apply k22; clear k22; refine kp [0, 1, 2, 3, 8, 9, 10, 11, 36, 41] ?_
   refine cd (fun hc23 => ?_) (fun hc23 => ?_)
   · exfalso; (try simp only [zB, reduceCtorEq] at hc23); all_goals (first | (cases hc23; done) | omega | (simp at hc23; done) | (simp_all; done))
   (try simp only [zB, reduceCtorEq] at hc23)
   refine au ?_
   apply k21; clear k21; refine kp [0, 1, 2, 3, 8, 9, 10, 11, 36, 41] ?_
   refine ab fun _ k24 => ?_
   refine af hP hN rfl ?_
   iterate 6 (refine aa rfl fun _ k0 => ?_; simp only [zO, zT, acs, reduceCtorEq, M, E, O, Z, Y, V, Int.add_zero, List.drop_zero, hpl, aJ]; (repeat refine an ?_); (try refine .inl ?_); apply k0; clear k0; simp only [zP, E])
   (refine aa rfl fun _ k0 => ?_; simp only [zE, op1, ev, lkp, cT, bq, dT, bC, cP, di, cv, dt, cg, bnd, Ty.size, dg, zG, Ty.dflt, Nat.mul_one, ne_eq, not_false_eq_true, Int.natCast_one, Int.mul_one, dN, bB, bg, ba, acs, reduceCtorEq, M, E, O, Z, Y, V, Tryz.el22, Tryz.td22, Tryz.td3, Tryz.td9, Int.add_zero, List.drop_zero, hpl, aJ]; (repeat refine an ?_); (try refine .inl ?_); apply k0; clear k0; simp only [zP, E])
   iterate 2 (refine aa rfl fun _ k0 => ?_; simp only [zO, zT, acs, reduceCtorEq, M, E, O, Z, Y, V, Int.add_zero, List.drop_zero, hpl, aJ]; (repeat refine an ?_); (try refine .inl ?_); apply k0; clear k0; simp only [zP, E])
   refine ad ?_
   apply k24; clear k24; refine kp [0, 1, 2, 3, 8, 9, 10, 11, 36, 41] ?_
   refine ab fun _ k25 => ?_
   refine af hP hN rfl ?_
   iterate 5 (refine aa rfl fun _ k0 => ?_; simp only [zO, zT, acs, reduceCtorEq, M, E, O, Z, Y, V, aG]; (repeat refine an ?_); (try refine .inl ?_); apply k0; clear k0; simp only [zP, E])
   (refine aa rfl fun _ k0 => ?_; simp only [zE, op1, ev, lkp, cT, bq, cZ, kb, jh, cb, cS, fV, Nat.div_one, dE, d7, Ty.size, ba, dite_true, dT, bC, cP, di, cv, dt, cg, bnd, reduceCtorEq, M, E, O, Z, Y, V, Tryz.td3, Tryz.td9, aG]; (repeat refine an ?_); (try refine .inl ?_); apply k0; clear k0; simp only [zP, E])
   (refine aa rfl fun _ k0 => ?_; simp only [zO, zT, acs, reduceCtorEq, M, E, O, Z, Y, V, aG]; (repeat refine an ?_); (try refine .inl ?_); apply k0; clear k0; simp only [zP, E])
   refine ad ?_
   apply k25; clear k25; refine kp [0, 1, 2, 3, 8, 9, 10, 11, 36, 41] ?_
   refine af hP hN rfl ?_
   iterate 3 (refine aa rfl fun _ k0 => ?_; simp only [zO, zT, acs, reduceCtorEq, M, E, O, Z, Y, V]; (repeat refine an ?_); (try refine .inl ?_); apply k0; clear k0; simp only [zP, E])
   refine ad ?_
   refine ⟨_, _, ?_, aB [0, 1, 2, 3, 8, 9, 10], k + 1, v, r.drop ((Lib.indexByte r c).toNat + 1), by omega, h3, by rw [List.length_drop]; omega, rfl, ?_⟩
   · omega
   · rw [← pa (P := spB c s) (k := k) (by omega) h2]
     rw [show (Lib.indexByte r c + 1).toNat = (Lib.indexByte r c).toNat + 1 by omega]
     rfl
  (try simp only [zB, reduceCtorEq] at hc19)
  refine aW ?_
  apply k15; clear k15; refine kp [0, 1, 2, 3, 8, 9, 10, 36] ?_
  refine ab fun _ k26 => ?_
  obtain ⟨g1, g2⟩ := ri (P := spB c s) hr (by omega)
  have hpl := m5 (P := spB c s) (k := k) (by omega)
  have hpk := m5 (P := spB c s) (k := k + 1) (by omega)
  have hps := pa (P := spB c s) (k := k) (by omega) g1
  refine af hP hN rfl ?_
  iterate 5 (refine aa rfl fun _ k0 => ?_; simp only [zO, zT, acs, reduceCtorEq, M, E, O, Z, Y, V, hpl, aJ]; (repeat refine an ?_); (try refine .inl ?_); apply k0; clear k0; simp only [zP, E])
  refine ad ?_
  apply k26; clear k26; refine kp [0, 1, 2, 3, 8, 9, 10, 36] ?_
  refine ab fun _ k27 => ?_
  refine af hP hN rfl ?_
  iterate 3 (refine aa rfl fun _ k0 => ?_; simp only [zO, zT, acs, reduceCtorEq, M, E, O, Z, Y, V, List.length_set, hpl, hps]; (repeat refine an ?_); (try refine .inl ?_); apply k0; clear k0; simp only [zP, E])
  (refine aa rfl fun _ k0 => ?_; simp only [zE, op1, ev, lkp, cT, bq, dT, bC, cP, di, cv, dt, cg, bnd, Ty.size, reduceCtorEq, M, E, O, Z, Y, V, Tryz.el22, Tryz.td22, Tryz.td3, List.length_set, hpl, hps]; (repeat refine an ?_); (try refine .inl ?_); apply k0; clear k0; simp only [zP, E])
  (refine aa rfl fun _ k0 => ?_; simp only [zO, zT, acs, reduceCtorEq, M, E, O, Z, Y, V, List.length_set, hpl, hps]; (repeat refine an ?_); (try refine .inl ?_); apply k0; clear k0; simp only [zP, E])
  refine ad ?_
  apply k27; clear k27; refine kp [0, 1, 2, 3, 8, 9, 10, 36] ?_
  refine aq ?_
  refine ⟨nr, _, rfl, ?_⟩; simp only [zF, zP, M, E]
  refine VLE.of_eq ?_
  have hke : k + 1 = (spB c s).length := by omega
  rw [show ((k : Int) + 1).toNat = (spB c s).length by omega, hke, rX, aG]
 · exfalso; (try simp only [zB, reduceCtorEq] at hc10); all_goals (first | (cases hc10; done) | omega | (simp at hc10; done) | (simp_all; done))
theorem rD (s : Bs) (c : UInt8) (hs : s.length ≤ 1048576) : bz Tryz.prog 48 [.one (.str s), .one (.str [c])] (.one (.list .str (spB c s))) := by
 refine aL Tryz.func48 rfl (by kernel_rfl) (Nat.le_of_ble_eq_true rfl) rfl fun C hP hN hB => ?_
 replace hN : C.N = 8 := hN
 simp only [aO, E]
 refine ab fun _ k1 => ?_
 refine af hP hN rfl ?_
 (refine aa rfl fun _ k0 => ?_; simp only [zO, zT, acs, reduceCtorEq, M, E, O, Z, Y, V]; (repeat refine an ?_); (try refine .inl ?_); apply k0; clear k0; simp only [zP, E])
 refine ad ?_
 apply k1; clear k1; refine kp [0, 1, 4] ?_
 refine ab fun _ k2 => ?_
 refine af hP hN rfl ?_
 iterate 2 (refine aa rfl fun _ k0 => ?_; simp only [zO, zT, acs, reduceCtorEq, M, E, O, Z, Y, V]; (repeat refine an ?_); (try refine .inl ?_); apply k0; clear k0; simp only [zP, E])
 refine aa rfl fun _ k0 => ?_
 refine az (h := aj (qH s c hs)) rfl rfl (by first | exact rfl | (simp only [ev, zP, M, E]; exact rfl)) (by simp only [zV, acs, reduceCtorEq, M, E, O, Z, Y, V]) ?_
 apply k0; clear k0; simp only [zP, E]
 (refine aa rfl fun _ k0 => ?_; simp only [zO, zT, acs, reduceCtorEq, M, E, O, Z, Y, V]; (repeat refine an ?_); (try refine .inl ?_); apply k0; clear k0; simp only [zP, E])
 refine ad ?_
 apply k2; clear k2; refine kp [0, 1, 4] ?_
 refine aq ?_
 refine ⟨nr, _, rfl, ?_⟩; simp only [zF, zP, M, E]
 refine VLE.of_eq ?_
 rfl
set_option maxHeartbeats 1000000 in
theorem qh (r : RS) (s : Bs) (hk : LOK r) (hs : s.length ≤ 900000) : dW Tryz.prog (SH 60 45 3 r) 29 [.one (.ptr 0 0 0 0), .one (.str s)] { av := .one (.int .i64 (bj r s).2), upd := eZ (SH 60 45 3 r).length (SH 60 45 3 (bj r s).1), new := (SH 60 45 3 (bj r s).1).drop (SH 60 45 3 r).length, fp := List.range (SH 60 45 3 r).length } := by
 refine fi _ _ Tryz.func29 rfl (by kernel_rfl) (Nat.le_of_ble_eq_true rfl) (by intro k hk; exact List.mem_range.2 hk) (fun C hP hN hB => ?_)
 replace hB : C.bL.length = (SH 60 45 3 r).length := by rw [hB]; skip
 replace hN : C.N = 46 := hN
 simp only [aO, E]
 refine ab fun _ k1 => ?_
 refine af hP hN rfl ?_
 (refine aa rfl fun _ k0 => ?_; simp only [zO, zT, acs, reduceCtorEq, M, E, O, Z, Y, V, Int.toNat_one, Int.reduceToNat, Int.toNat_zero]; (repeat refine And.intro (by first | omega | assumption | exact rfl | exact ⟨by omega, hne (by assumption)⟩) ?_); (try refine .inl ?_); apply k0; clear k0; simp only [zP, E])
 refine ad ?_
 apply k1; clear k1; refine kp [0, 1, 4] ?_
 refine ab fun _ k2 => ?_
 refine af hP hN rfl ?_
 (refine aa rfl fun _ k0 => ?_; simp only [zO, zT, acs, reduceCtorEq, M, E, O, Z, Y, V, Int.toNat_one, Int.reduceToNat, Int.toNat_zero]; (repeat refine And.intro (by first | omega | assumption | exact rfl | exact ⟨by omega, hne (by assumption)⟩) ?_); (try refine .inl ?_); apply k0; clear k0; simp only [zP, E])
 refine aa rfl fun _ k0 => ?_
 refine az (h := aj (qK s [10] (by omega))) rfl rfl (by first | exact rfl | (simp only [ev, zP, M, E]; exact rfl)) (by simp only [zV, acs, reduceCtorEq, M, E, O, Z, Y, V, Int.toNat_one, Int.reduceToNat, Int.toNat_zero]) ?_
 apply k0; clear k0; simp only [zP, E]
 iterate 5 (refine aa rfl fun _ k0 => ?_; simp only [zO, zT, acs, reduceCtorEq, M, E, O, Z, Y, V, Int.toNat_one, Int.reduceToNat, Int.toNat_zero]; (repeat refine And.intro (by first | omega | assumption | exact rfl | exact ⟨by omega, hne (by assumption)⟩) ?_); (try refine .inl ?_); apply k0; clear k0; simp only [zP, E])
 refine ad ?_
 apply k2; clear k2; refine kp [0, 1, 4, 5, 6] ?_
 refine ab fun _ k3 => ?_
 refine ab fun _ k4 => ?_
 refine af hP hN rfl ?_
 iterate 2 (refine aa rfl fun _ k0 => ?_; simp only [zO, zT, acs, reduceCtorEq, M, E, O, Z, Y, V, Int.toNat_one, Int.reduceToNat, Int.toNat_zero]; (repeat refine And.intro (by first | omega | assumption | exact rfl | exact ⟨by omega, hne (by assumption)⟩) ?_); (try refine .inl ?_); apply k0; clear k0; simp only [zP, E])
 refine ad ?_
 apply k4; clear k4; refine kp [0, 1, 4, 5, 6, 15] ?_
 refine cd (fun hc5 => ?_) (fun hc5 => ?_)
 ·(try simp only [zB, reduceCtorEq] at hc5)
  have hsf : dn s [10] = false := by simpa using hc5
  refine ab fun _ k6 => ?_
  refine af hP hN rfl ?_
  (refine aa rfl fun _ k0 => ?_; simp only [zO, zT, acs, reduceCtorEq, M, E, O, Z, Y, V, Int.toNat_one, Int.reduceToNat, Int.toNat_zero]; (repeat refine And.intro (by first | omega | assumption | exact rfl | exact ⟨by omega, hne (by assumption)⟩) ?_); (try refine .inl ?_); apply k0; clear k0; simp only [zP, E])
  refine ad ?_
  apply k6; clear k6; refine kp [0, 1, 4, 5, 6, 15] ?_
  refine aq ?_
  refine ⟨by first | exact .inl rfl | exact .inr rfl, _, rfl, ?_⟩; simp only [zP, M, E, Int.toNat_one, Int.reduceToNat, Int.toNat_zero]
  first
  | (rw [gp hsf, aH (Nat.le_refl _)]; all_goals exact ⟨rfl, rfl⟩)
  | (rw [iN hsf hcm, aH (Nat.le_refl _)]; all_goals exact ⟨rfl, rfl⟩)
  | (rw [gb hsf hcm hin, aH (Nat.le_refl _)]; all_goals exact ⟨rfl, rfl⟩)
  | (rw [j9 hsf hcm hni hr5]
     have hU := aH (L0 := SH 60 45 3 r) (L1 := SH 60 45 3 { (bh r (spB 32 (s.take (s.length - 1)))).1 with rd := (bh r (spB 32 (s.take (s.length - 1)))).1.rd + 1 }) hle
     rw [hU]; all_goals exact ⟨rfl, rfl⟩)
  | (rw [iZ hsf hcm hni hr5]
     have hU := aH (L0 := SH 60 45 3 r) (L1 := SH 60 45 3 { (bP r (spB 32 (s.take (s.length - 1)))).1 with rd := (bP r (spB 32 (s.take (s.length - 1)))).1.rd + 1 }) hle
     rw [hU]; all_goals exact ⟨rfl, rfl⟩)
 (try simp only [zB, reduceCtorEq] at hc5)
 have hsf : dn s [10] = true := by simpa using hc5
 refine au ?_
 apply k3; clear k3; refine kp [0, 1, 4, 5, 6, 15] ?_
 refine ab fun _ k7 => ?_
 refine ab fun _ k8 => ?_
 rw [if_pos hsf]
 have hne : ¬ (s.take (s.length - 1)) = [] → 0 < (((s.take (s.length - 1))).length : Int) := fun e => by have := List.length_pos_iff.2 e; omega
 refine af hP hN rfl ?_
 iterate 3 (refine aa rfl fun _ k0 => ?_; simp only [zO, zT, acs, reduceCtorEq, M, E, O, Z, Y, V, Int.toNat_one, Int.reduceToNat, Int.toNat_zero]; (repeat refine And.intro (by first | omega | assumption | exact rfl | exact ⟨by omega, hne (by assumption)⟩) ?_); (try refine .inl ?_); apply k0; clear k0; simp only [zP, E])
 refine' ay (want := false) 3 rfl (m := 18) (by simp only [zP, M, E]; exact rfl) (by kernel_rfl) rfl rfl rfl rfl rfl (fun hg9 => ?a9) ?b9 ?c9
 case a9 =>
  have hq9 := hg9; (try simp only [zB, reduceCtorEq] at hg9); simp only [zE]
  iterate 3 (refine aN rfl fun _ k0 => ?_; simp only [zO, zT, acs, reduceCtorEq, M, E, O, Z, Y, V, Int.toNat_one, Int.reduceToNat, Int.toNat_zero]; (repeat refine And.intro (by first | omega | assumption | exact rfl | exact ⟨by omega, hne (by assumption)⟩) ?_); (try refine .inl ?_); apply k0; clear k0; simp only [zP, E])
  (refine aa rfl fun _ k0 => ?_; simp only [zO, zT, acs, reduceCtorEq, M, E, O, Z, Y, V, Int.toNat_one, Int.reduceToNat, Int.toNat_zero]; (repeat refine And.intro (by first | omega | assumption | exact rfl | exact ⟨by omega, hne (by assumption)⟩) ?_); (try refine .inl ?_); apply k0; clear k0; simp only [zP, E])
  refine ad ?_
  refine ⟨by simp only [zP, M, E]; exact rfl, rfl, ?_, rfl⟩; (repeat refine ax rfl ?_); exact aM (by exact rfl) hq9
 case b9 => exact bb
 simp only [aC, aA]
 refine ad ?_
 apply k8; clear k8; refine kp [0, 1, 4, 5, 6, 15, 22] ?_
 refine cd (fun hc10 => ?_) (fun hc10 => ?_)
 ·(try simp only [zB, reduceCtorEq] at hc10)
  have hcm := hc10
  refine ab fun _ k11 => ?_
  refine af hP hN rfl ?_
  (refine aa rfl fun _ k0 => ?_; simp only [zO, zT, acs, reduceCtorEq, M, E, O, Z, Y, V, Int.toNat_one, Int.reduceToNat, Int.toNat_zero]; (repeat refine And.intro (by first | omega | assumption | exact rfl | exact ⟨by omega, hne (by assumption)⟩) ?_); (try refine .inl ?_); apply k0; clear k0; simp only [zP, E])
  refine ad ?_
  apply k11; clear k11; refine kp [0, 1, 4, 5, 6, 15, 22] ?_
  refine aq ?_
  refine ⟨by first | exact .inl rfl | exact .inr rfl, _, rfl, ?_⟩; simp only [zP, M, E, Int.toNat_one, Int.reduceToNat, Int.toNat_zero]
  first
  | (rw [gp hsf, aH (Nat.le_refl _)]; all_goals exact ⟨rfl, rfl⟩)
  | (rw [iN hsf hcm, aH (Nat.le_refl _)]; all_goals exact ⟨rfl, rfl⟩)
  | (rw [gb hsf hcm hin, aH (Nat.le_refl _)]; all_goals exact ⟨rfl, rfl⟩)
  | (rw [j9 hsf hcm hni hr5]
     have hU := aH (L0 := SH 60 45 3 r) (L1 := SH 60 45 3 { (bh r (spB 32 (s.take (s.length - 1)))).1 with rd := (bh r (spB 32 (s.take (s.length - 1)))).1.rd + 1 }) hle
     rw [hU]; all_goals exact ⟨rfl, rfl⟩)
  | (rw [iZ hsf hcm hni hr5]
     have hU := aH (L0 := SH 60 45 3 r) (L1 := SH 60 45 3 { (bP r (spB 32 (s.take (s.length - 1)))).1 with rd := (bP r (spB 32 (s.take (s.length - 1)))).1.rd + 1 }) hle
     rw [hU]; all_goals exact ⟨rfl, rfl⟩)
 (try simp only [zB, reduceCtorEq] at hc10)
 have hcm := hc10
 refine au ?_
 apply k7; clear k7; refine kp [0, 1, 4, 5, 6, 15, 22] ?_
 refine ab fun _ k12 => ?_
 refine af hP hN rfl ?_
 (refine aa rfl fun _ k0 => ?_; simp only [zO, zT, acs, reduceCtorEq, M, E, O, Z, Y, V, Int.toNat_one, Int.reduceToNat, Int.toNat_zero]; (repeat refine And.intro (by first | omega | assumption | exact rfl | exact ⟨by omega, hne (by assumption)⟩) ?_); (try refine .inl ?_); apply k0; clear k0; simp only [zP, E])
 refine aa rfl fun _ k0 => ?_
 refine az (h := aj (rD (s.take (s.length - 1)) 32 (by rw [List.length_take]; omega))) rfl rfl (by first | exact rfl | (simp only [ev, zP, M, E]; exact rfl)) (by simp only [zV, acs, reduceCtorEq, M, E, O, Z, Y, V, Int.toNat_one, Int.reduceToNat, Int.toNat_zero]) ?_
 apply k0; clear k0; simp only [zP, E]
 (refine aa rfl fun _ k0 => ?_; simp only [zO, zT, acs, reduceCtorEq, M, E, O, Z, Y, V, Int.toNat_one, Int.reduceToNat, Int.toNat_zero]; (repeat refine And.intro (by first | omega | assumption | exact rfl | exact ⟨by omega, hne (by assumption)⟩) ?_); (try refine .inl ?_); apply k0; clear k0; simp only [zP, E])
 refine ad ?_
 apply k12; clear k12; refine kp [0, 1, 4, 5, 6, 7, 15, 22] ?_
 refine ab fun _ k13 => ?_
 refine ab fun _ k14 => ?_
 refine af hP hN rfl ?_
 (refine aa rfl fun _ k0 => ?_; simp only [zO, zT, acs, reduceCtorEq, M, E, O, Z, Y, V, Int.toNat_one, Int.reduceToNat, Int.toNat_zero]; (repeat refine And.intro (by first | omega | assumption | exact rfl | exact ⟨by omega, hne (by assumption)⟩) ?_); (try refine .inl ?_); apply k0; clear k0; simp only [zP, E])
 refine aa rfl fun _ k0 => ?_
 refine az (h := aj (fk (spB 32 (s.take (s.length - 1))) [])) rfl rfl (by first | exact rfl | (simp only [ev, zP, M, E]; exact rfl)) (by simp only [zV, acs, reduceCtorEq, M, E, O, Z, Y, V, Int.toNat_one, Int.reduceToNat, Int.toNat_zero]) ?_
 apply k0; clear k0; simp only [zP, E]
 refine ad ?_
 apply k14; clear k14; refine kp [0, 1, 4, 5, 6, 7, 15, 22, 26] ?_
 refine cd (fun hc15 => ?_) (fun hc15 => ?_)
 ·(try simp only [zB, reduceCtorEq] at hc15)
  have hin := hc15
  refine ab fun _ k16 => ?_
  refine af hP hN rfl ?_
  (refine aa rfl fun _ k0 => ?_; simp only [zO, zT, acs, reduceCtorEq, M, E, O, Z, Y, V, Int.toNat_one, Int.reduceToNat, Int.toNat_zero]; (repeat refine And.intro (by first | omega | assumption | exact rfl | exact ⟨by omega, hne (by assumption)⟩) ?_); (try refine .inl ?_); apply k0; clear k0; simp only [zP, E])
  refine ad ?_
  apply k16; clear k16; refine kp [0, 1, 4, 5, 6, 7, 15, 22, 26] ?_
  refine aq ?_
  refine ⟨by first | exact .inl rfl | exact .inr rfl, _, rfl, ?_⟩; simp only [zP, M, E, Int.toNat_one, Int.reduceToNat, Int.toNat_zero]
  first
  | (rw [gp hsf, aH (Nat.le_refl _)]; all_goals exact ⟨rfl, rfl⟩)
  | (rw [iN hsf hcm, aH (Nat.le_refl _)]; all_goals exact ⟨rfl, rfl⟩)
  | (rw [gb hsf hcm hin, aH (Nat.le_refl _)]; all_goals exact ⟨rfl, rfl⟩)
  | (rw [j9 hsf hcm hni hr5]
     have hU := aH (L0 := SH 60 45 3 r) (L1 := SH 60 45 3 { (bh r (spB 32 (s.take (s.length - 1)))).1 with rd := (bh r (spB 32 (s.take (s.length - 1)))).1.rd + 1 }) hle
     rw [hU]; all_goals exact ⟨rfl, rfl⟩)
  | (rw [iZ hsf hcm hni hr5]
     have hU := aH (L0 := SH 60 45 3 r) (L1 := SH 60 45 3 { (bP r (spB 32 (s.take (s.length - 1)))).1 with rd := (bP r (spB 32 (s.take (s.length - 1)))).1.rd + 1 }) hle
     rw [hU]; all_goals exact ⟨rfl, rfl⟩)
 (try simp only [zB, reduceCtorEq] at hc15)
 have hni := hc15
 refine au ?_
 apply k13; clear k13; refine kp [0, 1, 4, 5, 6, 7, 15, 22, 26] ?_
 refine ab fun _ k17 => ?_
 refine af hP hN rfl ?_
 (refine aa rfl fun _ k0 => ?_; simp only [zO, zT, acs, reduceCtorEq, M, E, O, Z, Y, V, Int.toNat_one, Int.reduceToNat, Int.toNat_zero]; (repeat refine And.intro (by first | omega | assumption | exact rfl | exact ⟨by omega, hne (by assumption)⟩) ?_); (try refine .inl ?_); apply k0; clear k0; simp only [zP, E])
 refine ad ?_
 apply k17; clear k17; refine kp [0, 1, 4, 5, 6, 7, 8, 15, 22, 26] ?_
 refine ab fun _ k18 => ?_
 refine ab fun _ k19 => ?_
 have hwl : (spB 32 (s.take (s.length - 1))).length ≤ 1000000 := by have := r7 32 (s.take (s.length - 1)); rw [List.length_take] at this; omega
 refine af hP hN rfl ?_
 iterate 5 (refine aa rfl fun _ k0 => ?_; simp only [zO, zT, acs, reduceCtorEq, M, E, O, Z, Y, V, Int.toNat_one, Int.reduceToNat, Int.toNat_zero, mu, rdC]; (repeat refine And.intro (by first | omega | assumption | exact rfl | exact ⟨by omega, hne (by assumption)⟩) ?_); (try refine .inl ?_); apply k0; clear k0; simp only [zP, E])
 refine ad ?_
 apply k19; clear k19; refine kp [0, 1, 4, 5, 6, 7, 8, 15, 22, 26, 31] ?_
 refine cd (fun hc20 => ?_) (fun hc20 => ?_)
 ·(try simp only [zB, reduceCtorEq] at hc20)
  have hr5 := hc20
  have hle := qu (R := 60) (S := 45) (I := 3) (r := r) (fun e => (hk.h3 e).1) (spB 32 (s.take (s.length - 1)))
  have hA := aH hle
  have hS := ta 60 45 3 (bh r (spB 32 (s.take (s.length - 1)))).1
  have hrd : (bh r (spB 32 (s.take (s.length - 1)))).1.rd = r.rd := mr
  have hrl := hk.rl
  refine af hP hN rfl ?_
  iterate 2 (refine aa rfl fun _ k0 => ?_; simp only [zO, zT, acs, reduceCtorEq, M, E, O, Z, Y, V, Int.toNat_one, Int.reduceToNat, Int.toNat_zero]; (repeat refine And.intro (by first | omega | assumption | exact rfl | exact ⟨by omega, hne (by assumption)⟩) ?_); (try refine .inl ?_); apply k0; clear k0; simp only [zP, E, hA])
  refine aa rfl fun _ k0 => ?_
  refine az (h := tE r (spB 32 (s.take (s.length - 1))) hwl (m0 ..) (by omega) hk) rfl rfl (by first | exact rfl | (simp only [ev, zP, M, E]; exact rfl)) (by simp only [zV, acs, reduceCtorEq, M, E, O, Z, Y, V, Int.toNat_one, Int.reduceToNat, Int.toNat_zero]) ?_
  apply k0; clear k0; simp only [zP, E, hA]
  (refine aa rfl fun _ k0 => ?_; simp only [zO, zT, acs, reduceCtorEq, M, E, O, Z, Y, V, Int.toNat_one, Int.reduceToNat, Int.toNat_zero]; (repeat refine And.intro (by first | omega | assumption | exact rfl | exact ⟨by omega, hne (by assumption)⟩) ?_); (try refine .inl ?_); apply k0; clear k0; simp only [zP, E, hA])
  refine ad ?_
  apply k18; clear k18; refine kp [0, 1, 4, 5, 6, 7, 8, 15, 22, 26, 31] ?_
  refine ab fun _ k21 => ?_
  refine af hP hN rfl ?_
  iterate 8 (refine aa rfl fun _ k0 => ?_; simp only [zO, zT, acs, reduceCtorEq, M, E, O, Z, Y, V, Int.toNat_one, Int.reduceToNat, Int.toNat_zero, mu, rdC]; (repeat refine And.intro (by first | omega | assumption | exact rfl | exact ⟨by omega, hne (by assumption)⟩) ?_); (try refine .inl ?_); apply k0; clear k0; simp only [zP, E, hS])
  refine ad ?_
  apply k21; clear k21; refine kp [0, 1, 4, 5, 6, 7, 8, 15, 22, 26, 31] ?_
  refine ab fun _ k22 => ?_
  refine af hP hN rfl ?_
  iterate 2 (refine aa rfl fun _ k0 => ?_; simp only [zO, zT, acs, reduceCtorEq, M, E, O, Z, Y, V, Int.toNat_one, Int.reduceToNat, Int.toNat_zero]; (repeat refine And.intro (by first | omega | assumption | exact rfl | exact ⟨by omega, hne (by assumption)⟩) ?_); (try refine .inl ?_); apply k0; clear k0; simp only [zP, E])
  refine ad ?_
  apply k22; clear k22; refine kp [0, 1, 4, 5, 6, 7, 8, 15, 22, 26, 31] ?_
  refine aq ?_
  refine ⟨by first | exact .inl rfl | exact .inr rfl, _, rfl, ?_⟩; simp only [zP, M, E, Int.toNat_one, Int.reduceToNat, Int.toNat_zero]
  first
  | (rw [gp hsf, aH (Nat.le_refl _)]; all_goals exact ⟨rfl, rfl⟩)
  | (rw [iN hsf hcm, aH (Nat.le_refl _)]; all_goals exact ⟨rfl, rfl⟩)
  | (rw [gb hsf hcm hin, aH (Nat.le_refl _)]; all_goals exact ⟨rfl, rfl⟩)
  | (rw [j9 hsf hcm hni hr5]
     have hU := aH (L0 := SH 60 45 3 r) (L1 := SH 60 45 3 { (bh r (spB 32 (s.take (s.length - 1)))).1 with rd := (bh r (spB 32 (s.take (s.length - 1)))).1.rd + 1 }) hle
     rw [hU]; all_goals exact ⟨rfl, rfl⟩)
  | (rw [iZ hsf hcm hni hr5]
     have hU := aH (L0 := SH 60 45 3 r) (L1 := SH 60 45 3 { (bP r (spB 32 (s.take (s.length - 1)))).1 with rd := (bP r (spB 32 (s.take (s.length - 1)))).1.rd + 1 }) hle
     rw [hU]; all_goals exact ⟨rfl, rfl⟩)
 (try simp only [zB, reduceCtorEq] at hc20)
 have hr5 := hc20
 have hle := qb (R := 60) (S := 45) (I := 3) (r := r) (hk.h5 (by omega)).1 (spB 32 (s.take (s.length - 1)))
 have hA := aH hle
 have hS := ta 60 45 3 (bP r (spB 32 (s.take (s.length - 1)))).1
 have hrd : (bP r (spB 32 (s.take (s.length - 1)))).1.rd = r.rd := p6
 have hrl := hk.rl
 refine af hP hN rfl ?_
 iterate 2 (refine aa rfl fun _ k0 => ?_; simp only [zO, zT, acs, reduceCtorEq, M, E, O, Z, Y, V, Int.toNat_one, Int.reduceToNat, Int.toNat_zero]; (repeat refine And.intro (by first | omega | assumption | exact rfl | exact ⟨by omega, hne (by assumption)⟩) ?_); (try refine .inl ?_); apply k0; clear k0; simp only [zP, E, hA])
 refine aa rfl fun _ k0 => ?_
 refine az (h := uC r (spB 32 (s.take (s.length - 1))) hwl (by omega) hk) rfl rfl (by first | exact rfl | (simp only [ev, zP, M, E]; exact rfl)) (by simp only [zV, acs, reduceCtorEq, M, E, O, Z, Y, V, Int.toNat_one, Int.reduceToNat, Int.toNat_zero]) ?_
 apply k0; clear k0; simp only [zP, E, hA]
 (refine aa rfl fun _ k0 => ?_; simp only [zO, zT, acs, reduceCtorEq, M, E, O, Z, Y, V, Int.toNat_one, Int.reduceToNat, Int.toNat_zero]; (repeat refine And.intro (by first | omega | assumption | exact rfl | exact ⟨by omega, hne (by assumption)⟩) ?_); (try refine .inl ?_); apply k0; clear k0; simp only [zP, E, hA])
 refine ad ?_
 apply k18; clear k18; refine kp [0, 1, 4, 5, 6, 7, 8, 15, 22, 26, 31] ?_
 refine ab fun _ k23 => ?_
 refine af hP hN rfl ?_
 iterate 8 (refine aa rfl fun _ k0 => ?_; simp only [zO, zT, acs, reduceCtorEq, M, E, O, Z, Y, V, Int.toNat_one, Int.reduceToNat, Int.toNat_zero, mu, rdC]; (repeat refine And.intro (by first | omega | assumption | exact rfl | exact ⟨by omega, hne (by assumption)⟩) ?_); (try refine .inl ?_); apply k0; clear k0; simp only [zP, E, hS])
 refine ad ?_
 apply k23; clear k23; refine kp [0, 1, 4, 5, 6, 7, 8, 15, 22, 26, 31] ?_
 refine ab fun _ k24 => ?_
 refine af hP hN rfl ?_
 iterate 2 (refine aa rfl fun _ k0 => ?_; simp only [zO, zT, acs, reduceCtorEq, M, E, O, Z, Y, V, Int.toNat_one, Int.reduceToNat, Int.toNat_zero]; (repeat refine And.intro (by first | omega | assumption | exact rfl | exact ⟨by omega, hne (by assumption)⟩) ?_); (try refine .inl ?_); apply k0; clear k0; simp only [zP, E])
 refine ad ?_
 apply k24; clear k24; refine kp [0, 1, 4, 5, 6, 7, 8, 15, 22, 26, 31] ?_
 refine aq ?_
 refine ⟨by first | exact .inl rfl | exact .inr rfl, _, rfl, ?_⟩; simp only [zP, M, E, Int.toNat_one, Int.reduceToNat, Int.toNat_zero]
 first
 | (rw [gp hsf, aH (Nat.le_refl _)]; all_goals exact ⟨rfl, rfl⟩)
 | (rw [iN hsf hcm, aH (Nat.le_refl _)]; all_goals exact ⟨rfl, rfl⟩)
 | (rw [gb hsf hcm hin, aH (Nat.le_refl _)]; all_goals exact ⟨rfl, rfl⟩)
 | (rw [j9 hsf hcm hni hr5]
    have hU := aH (L0 := SH 60 45 3 r) (L1 := SH 60 45 3 { (bh r (spB 32 (s.take (s.length - 1)))).1 with rd := (bh r (spB 32 (s.take (s.length - 1)))).1.rd + 1 }) hle
    rw [hU]; all_goals exact ⟨rfl, rfl⟩)
 | (rw [iZ hsf hcm hni hr5]
    have hU := aH (L0 := SH 60 45 3 r) (L1 := SH 60 45 3 { (bP r (spB 32 (s.take (s.length - 1)))).1 with rd := (bP r (spB 32 (s.take (s.length - 1)))).1.rd + 1 }) hle
    rw [hU]; all_goals exact ⟨rfl, rfl⟩)
section
open Go.RowKit
def XP (N b : Nat) : Prop := b ≤ N + 8 ∧ b ≠ N + 3
structure Chg (j : Nat) (W W' : World) : Prop where
  size : W.heap.size ≤ W'.heap.size
  same : ∀ b, b ≠ j → b < W.heap.size → W'.heap[b]? = W.heap[b]?
  os : W'.os = W.os
  tape : W'.tape = W.tape
  output : W'.output = W.output
theorem iJ (W : World) (j : Nat) (o : Obj) : Chg j W (W.putObj j o) := ⟨by simp, fun b hb _ => World.putObj_heap_other hb, rfl, rfl, rfl⟩
theorem dO (W : World) (j : Nat) (v : Value) : Chg j W (W.setCell ⟨j, 0, none⟩ v) := by
  have h := (Below.refl j W).setCell (p := ⟨j, 0, none⟩) (Nat.le_refl _) v
  exact ⟨h.size, fun b hb _ => Below.heap_setCell W ⟨j, 0, none⟩ v b hb, h.os, h.tape, h.output⟩
theorem Chg.boxed {j B : Nat} {W W' : World} {t : TypeId} {v : Value} (h : Chg j W W') (hb : Boxed W B t v) (hne : B ≠ j) : Boxed W' B t v := (h.same B hne hb.lt).trans hb
theorem Chg.below {j B : Nat} {w W W' : World} (h : Chg j W W') (hb : Below B w W) (hB : B ≤ w.heap.size) (hj : B ≤ j) : Below B w W' :=
  ⟨h.os.trans hb.os, h.tape.trans hb.tape, h.output.trans hb.output, Nat.le_trans hb.size h.size, fun k hk => (h.same k (by omega) (by have := hb.size; omega)).trans (hb.block k hk)⟩
def zmC : Array Value := #[.string ⟨#[]⟩, .slice none 0 0, .slice none 0 0, .int .i64 0, .int .i64 0, .slice none 0 0, .slice none 0 0]
structure PS (w : World) (last : Int) (W : World) : Prop where
  bl : Below w.heap.size w W
  b2 : W.heap[w.heap.size]? = some (.cells zmC 29 (0, 0))
  b3 : Boxed W (w.heap.size + 1) 3 (.int .i64 0)
  b4 : Boxed W (w.heap.size + 2) 32 (.int .i64 0)
  b5 : Boxed W (w.heap.size + 4) 58 (.pointer (some ⟨w.heap.size + 3, 0, none⟩))
  b6 : Boxed W (w.heap.size + 5) 3 (.int .i64 last)
  sz : w.heap.size + 8 < W.heap.size
def HS (N : Nat) (r : RS) (W : World) : Prop := ∃ σ, kd Tryz.prog (XP N) (SH 60 45 3 r) σ W ∧ RC (dB Tryz.prog (XP N) W) (SH 60 45 3 r) σ W (.ptr 0 0 0 0) (.pointer (some ⟨N + 3, 0, none⟩))
theorem nk {w W W' : World} {last : Int} {j : Nat} (h : PS w last W) (hc : Chg j W W') (hj : w.heap.size + 5 < j) : PS w last W' :=
  ⟨hc.below h.bl (Nat.le_refl _) (by omega), (hc.same _ (by omega) (by have := h.sz; omega)).trans h.b2, hc.boxed h.b3 (by omega), hc.boxed h.b4 (by omega), hc.boxed h.b5 (by omega), hc.boxed h.b6 (by omega), Nat.lt_of_lt_of_le h.sz hc.size⟩
theorem kx {N : Nat} {W W' : World} {r : RS} {j : Nat} (h : HS N r W) (hc : Chg j W W') (hj : XP N j) (hz : N + 8 < W.heap.size) : HS N r W' := by
  obtain ⟨σ, h1, h2⟩ := h
  obtain ⟨g1, g2⟩ := rO (X' := XP N) h1 hc.size (fun b hb hx => hc.same b (fun e => hx (e ▸ hj)) hb) (fun b hb _ => hb) (fun b hb => by have := hc.size; have := hb.1; omega)
  exact ⟨σ, g1, g2 _ _ h2⟩
def IPs (s : Bs) (w : World) (k : Nat) (W : World) : Prop := PS w (k : Int) W ∧ Boxed W (w.heap.size + 6) 9 (.string ⟨(aP s k).toArray⟩) ∧ HS w.heap.size (bH s k) W ∧ OKR s k
def IYs (s : Bs) (w : World) (k : Nat) (W : World) : Prop := PS w ((k + 1 : Nat) : Int) W ∧ Boxed W (w.heap.size + 6) 9 (.string ⟨(aP s k).toArray⟩) ∧ HS w.heap.size (bH s (k + 1)) W ∧ OKR s (k + 1)
structure IXs (s : Bs) (w : World) (k : Nat) (W : World) : Prop where
  bl : Below w.heap.size w W
  b2 : W.heap[w.heap.size]? = some (.cells zmC 29 (0, 0))
  b3 : Boxed W (w.heap.size + 1) 3 (.int .i64 ((k : Int) + 1))
  b4 : Boxed W (w.heap.size + 2) 32 (.int .i64 (bj (bH s k) (bT s k)).2)
  e0 : ¬ (bj (bH s k) (bT s k)).2 = 0
  ok : OKR s k
theorem rT {s : Bs} {w W : World} {k : Nat} {o : Obj} (h : IPs s w k W) : IPs s w k (W.putObj (w.heap.size + 8) o) := by
  obtain ⟨h1, h2, h3, h4⟩ := h
  have hc := iJ W (w.heap.size + 8) o
  exact ⟨nk h1 hc (by omega), hc.boxed h2 (by omega), kx h3 hc ⟨Nat.le_refl _, by omega⟩ h1.sz, h4⟩
theorem sK {s : Bs} {w W : World} {k : Nat} {o : Obj} (h : IYs s w k W) : IYs s w k (W.putObj (w.heap.size + 8) o) := by
  obtain ⟨h1, h2, h3, h4⟩ := h
  have hc := iJ W (w.heap.size + 8) o
  exact ⟨nk h1 hc (by omega), hc.boxed h2 (by omega), kx h3 hc ⟨Nat.le_refl _, by omega⟩ h1.sz, h4⟩
theorem sY {s : Bs} {w W : World} {k : Nat} {o : Obj} (h : IXs s w k W) (hz : w.heap.size + 8 < W.heap.size) : IXs s w k (W.putObj (w.heap.size + 8) o) := by
  have hc := iJ W (w.heap.size + 8) o
  exact ⟨hc.below h.bl (Nat.le_refl _) (by omega), (hc.same _ (by omega) (by omega)).trans h.b2, hc.boxed h.b3 (by omega), hc.boxed h.b4 (by omega), h.e0, h.ok⟩
theorem qR {s : Bs} {w W : World} {k : Nat} (h : IYs s w k W) : IPs s w (k + 1) (W.setCell ⟨w.heap.size + 6, 0, none⟩ (.string ⟨(aP s (k + 1)).toArray⟩)) := by
  obtain ⟨h1, h2, h3, h4⟩ := h
  have hc := dO W (w.heap.size + 6) (.string ⟨(aP s (k + 1)).toArray⟩)
  exact ⟨nk h1 hc (by omega), h2.set _, kx h3 hc ⟨by omega, by omega⟩ h1.sz, h4⟩
def LQ (s : Bs) (w : World) (k : Nat) (e : Ending) (W : World) : Prop :=
  e = .returned (.int .i64 (bj (bH s k) (bT s k)).2) ∧ PS w (k : Int) W ∧ Boxed W (w.heap.size + 6) 9 (.string ⟨(aP s k).toArray⟩) ∧ HS w.heap.size (bH s (k + 1)) W
theorem tO (r r' : RS) (v : AV) (hle : (SH 60 45 3 r).length ≤ (SH 60 45 3 r').length) : app (SH 60 45 3 r) { av := v, upd := eZ (SH 60 45 3 r).length (SH 60 45 3 r'), new := (SH 60 45 3 r').drop (SH 60 45 3 r).length, fp := List.range (SH 60 45 3 r).length } = SH 60 45 3 r' := aH hle
theorem oK {s : Bs} {w W : World} {k : Nat} (hs : s.length ≤ 900000) (h : IPs s w k W) (hne : aP s k ≠ []) :
    Calls Tryz.prog 29 #[.pointer (some ⟨w.heap.size + 3, 0, none⟩), .string ⟨(bT s k).toArray⟩] W fun e W' => LQ s w k e W' ∧ W'.heap[w.heap.size + 7]? = W.heap[w.heap.size + 7]? ∧ W'.heap[w.heap.size + 8]? = W.heap[w.heap.size + 8]? := by
  obtain ⟨h1, h2, ⟨σ, h3, h4⟩, h5⟩ := h
  obtain ⟨r1, r2, r3⟩ := kB (by omega : s.length ≤ 1048576) h5
  have hlk := tw r1 (by omega)
  have hll : (bT s k).length ≤ 900000 := by unfold bT; have := oP s k; rw [List.length_take]; omega
  refine (pE (qh (bH s k) (bT s k) hlk hll) h3 (vs := [.pointer (some ⟨w.heap.size + 3, 0, none⟩), .string ⟨(bT s k).toArray⟩]) ⟨h4, ⟨rfl, rfl⟩, trivial⟩).mono fun e W' hh => ?_
  obtain ⟨v, σ', he, g1, g2, g3, g4⟩ := hh
  rw [tO _ _ _ (uw hlk _)] at g1 g2 g4
  have hv : v = .int .i64 (bj (bH s k) (bT s k)).2 := g2.2
  subst hv
  have hsame : ∀ b, XP w.heap.size b → W'.heap[b]? = W.heap[b]? := g3.same
  have hbx : ∀ {B : Nat} {t : TypeId} {v : Value}, XP w.heap.size B → Boxed W B t v → Boxed W' B t v := fun hB hb => (hsame _ hB).trans hb
  have hz := h1.sz
  refine ⟨⟨he, ⟨⟨g3.os.trans h1.bl.os, g3.tape.trans h1.bl.tape, g3.output.trans h1.bl.output, Nat.le_trans h1.bl.size g3.size, fun b hb => (hsame b ⟨by omega, by omega⟩).trans (h1.bl.block b hb)⟩, (hsame _ ⟨by omega, by omega⟩).trans h1.b2, hbx ⟨by omega, by omega⟩ h1.b3, hbx ⟨by omega, by omega⟩ h1.b4, hbx ⟨by omega, by omega⟩ h1.b5, hbx ⟨by omega, by omega⟩ h1.b6, Nat.lt_of_lt_of_le hz g3.size⟩,
    hbx ⟨by omega, by omega⟩ h2, ⟨σ', g1, g4 _ _ h4⟩⟩, hsame _ ⟨by omega, by omega⟩, hsame _ ⟨by omega, by omega⟩⟩
theorem kf : ∀ (os : List Obj) (w : World) (k : Nat), k < w.heap.size → (os.foldl (fun W o => W.alloc o) w).heap[k]? = w.heap[k]?
  | [], _, _, _ => rfl
  | o :: os, w, k, h => (kf os (w.alloc o) k (by simp; omega)).trans (Below.heap_alloc w o k h)
theorem jL : ∀ (os : List Obj) (w : World) (i : Nat), i < os.length → (os.foldl (fun W o => W.alloc o) w).heap[w.heap.size + i]? = os[i]?
  | o :: os, w, 0, _ => (kf os (w.alloc o) w.heap.size (by simp)).trans (World.alloc_heap_new w o)
  | o :: os, w, i + 1, h => by
    have := jL os (w.alloc o) i (by simpa using h)
    rw [World.size_alloc, show w.heap.size + 1 + i = w.heap.size + (i + 1) by omega] at this
    exact this
theorem fJ : ∀ (os : List Obj) (w : World), (os.foldl (fun W o => W.alloc o) w).heap.size = w.heap.size + os.length
  | [], _ => rfl
  | o :: os, w => by
    have := fJ os (w.alloc o)
    rw [World.size_alloc] at this
    simp only [List.foldl_cons, ah]; omega
theorem hG : ∀ (os : List Obj) (w : World), Below w.heap.size w (os.foldl (fun W o => W.alloc o) w)
  | [], w => Below.refl _ w
  | o :: os, w => ((Below.refl _ w).alloc (Nat.le_refl _) o).trans ((hG os (w.alloc o)).mono (by simp))
def rdZ : List Value := [.string ⟨#[]⟩, .slice none 0 0, .slice none 0 0, .int .i64 0, .int .i64 0, .slice none 0 0, .slice none 0 0, .slice none 0 0, .int .i64 0, .int .i64 0]
theorem qQ {N : Nat} {W : World} (hb : W.heap[N + 3]? = some (.cells rdZ.toArray 60 (0, 0))) (hz : N + 8 < W.heap.size) : HS N rs0 W := by
  refine ⟨fun _ => .pointer (some ⟨N + 3, 0, none⟩), ⟨fun o ob e => ?_, fun o o' b h h' => ?_, fun o b h => ?_, fun b h => h.elim, fun b h => by have := h.1; show b < W.heap.size; omega, Nat.le_refl _, rfl, rfl, rfl⟩, rfl, _, mu _ _ _ _, Nat.le_refl _, fun _ _ => ⟨_, rfl, rfl⟩⟩
  · have h0 : o = 0 ∧ ob = .vars 60 (rdC rs0 .nils .nils) := by
      cases o with
      | zero => exact ⟨rfl, (Option.some.inj e).symm⟩
      | succ o => cases e
    obtain ⟨rfl, rfl⟩ := h0
    refine ⟨N + 3, rdZ, rfl, hb, ?_⟩
    exact ⟨⟨rfl, rfl⟩, ⟨rfl, bM _⟩, ⟨rfl, bM _⟩, ⟨rfl, rfl⟩, ⟨rfl, rfl⟩, ⟨rfl, rfl⟩, ⟨rfl, rfl⟩, ⟨rfl, bM _⟩, ⟨rfl, rfl⟩, ⟨rfl, rfl⟩, trivial⟩
  · obtain ⟨ob, e, _, _⟩ := h
    obtain ⟨ob', e', _, _⟩ := h'
    have q : ∀ {o ob}, (SH 60 45 3 rs0)[o]? = some ob → o = 0 := fun {o ob} e => by
      cases o with
      | zero => rfl
      | succ o => cases e
    rw [q e, q e']
  · obtain ⟨ob, _, _, e⟩ := h
    have e2 : some (N + 3) = some b := e
    cases e2
    exact ⟨fun h => h, fun h => h.2 rfl⟩
def j6 (s : Bs) (N : Nat) : List Obj := [.cells zmC 29, .cells #[.int .i64 0] 3, .cells #[.int .i64 0] 32, .cells rdZ.toArray 60, .cells #[.pointer (some ⟨N + 3, 0, none⟩)] 58, .cells #[.int .i64 0] 3, .cells #[.string ⟨s.toArray⟩] 9]
theorem pR (s : Bs) (w : World) (d l : Obj) : IPs s w 0 ((((j6 s w.heap.size).foldl (fun W o => W.alloc o) w).alloc d).alloc l) := by
  have e : (((j6 s w.heap.size).foldl (fun W o => W.alloc o) w).alloc d).alloc l = (j6 s w.heap.size ++ [d, l]).foldl (fun W o => W.alloc o) w := by rw [List.foldl_append]; rfl
  rw [e]
  have hg := fun i hi => jL (j6 s w.heap.size ++ [d, l]) w i hi
  have hz := fJ (j6 s w.heap.size ++ [d, l]) w
  have hl : (j6 s w.heap.size ++ [d, l]).length = 9 := rfl
  rw [hl] at hz hg
  exact ⟨⟨hG _ w, hg 0 (by decide), hg 1 (by decide), hg 2 (by decide), hg 4 (by decide), hg 5 (by decide), by omega⟩, hg 6 (by decide), qQ (hg 3 (by decide)) (by omega), fun j hj => by omega⟩
theorem gT {F : Fence} {n : Nat} {P : Program} {ops : Array Oper} {rest : List Oper} {o : Oper} {a : Act} {w : World} {Q : Go.Exit → Act → World → Prop} (hgd : o.guard = none) (ty : TypeId) (x y : Operand) (ho : o.op = .store ty x y)
    (g : Nat) (cells : Array Value) (hx : a.eval x = .pointer (some ⟨g, 0, none⟩)) (hy : a.eval y = .agg cells)
    (t : TypeId) (old : Array Value) (hg : w.heap[g]? = some (.cells old t (0, 0))) (hi : (P.info? ty).map (·.size) = some cells.size)
    (hold : old.size = cells.size) (h1 : cells.all (·.oneCell') = true)
    (h : wpListIn F n P ops Q rest (a.put o.dst undef) (w.setRow g cells)) : wpListIn F n P ops Q (o :: rest) a w := by
  refine wpListIn_plain hgd fun K hK' => ?_
  unfold Oper.wpIn
  refine ⟨?_, ?_⟩
  · simp [Oper.about, ho]
  · rw [Oper.semAt_plain F _ _ (by rw [ho]; intro c hc'; cases hc')]
    unfold execOp
    simp only [ho, hx, hy, Instr.storeAt, Instr.sureAddr, Sem.run_bind, Sem.run_pure, Result.andThen_ok, run_storeVar_row w g t ty old cells hg hi hold h1]
    exact hK' _ _ h
theorem oZ (W : World) (N : Nat) (cs : Array Value) : Chg N W (W.setRow N cs) := ⟨by simp [World.setRow], fun b hb _ => setRow_other W N b cs hb, rfl, rfl, rfl⟩
theorem hM {F : Fence} {n : Nat} {P : Program} {ops : Array Oper} {rest : List Oper} {o : Oper} {a : Act} {w : World} {Q : Go.Exit → Act → World → Prop} (hgd : o.guard = none) (ty : TypeId) (x y : Operand) (ho : o.op = .store ty x y)
    (g : Nat) (cells : Array Value) (hx : a.eval x = .pointer (some ⟨g, 0, none⟩)) (hy : a.eval y = .agg cells)
    (t : TypeId) (old : Array Value) (hg : w.heap[g]? = some (.cells old t (0, 0))) (hi : (P.info? ty).map (·.size) = some cells.size)
    (hold : old.size = cells.size) (h1 : cells.all (·.oneCell') = true) {t3 t4 : TypeId} {v3 v4 : Value} (b3 : Boxed w (g + 1) t3 v3) (b4 : Boxed w (g + 2) t4 v4)
    (h : ∀ W', (Chg g w W' ∧ W'.heap[g]? = some (.cells cells t (0, 0)) ∧ Boxed W' (g + 1) t3 v3 ∧ Boxed W' (g + 2) t4 v4) ∧ W'.cell? ⟨g + 1, 0, none⟩ = some v3 ∧ W'.frozen? ⟨g + 1, 0, none⟩ = false ∧ W'.cell? ⟨g + 1 + 1, 0, none⟩ = some v4 ∧ W'.frozen? ⟨g + 1 + 1, 0, none⟩ = false → wpListIn F n P ops Q rest (a.put o.dst undef) W') : wpListIn F n P ops Q (o :: rest) a w := by
  refine gT hgd ty x y ho g cells hx hy t old hg hi hold h1 (h _ ?_)
  have hc := oZ w g cells
  have c3 := hc.boxed b3 (by omega)
  have c4 := hc.boxed b4 (by omega)
  exact ⟨⟨hc, setRow_heap w g _ _ t _ hg, c3, c4⟩, c3.cell, c3.frozen, c4.cell, c4.frozen⟩
theorem zm1 : zmC.all (·.oneCell') = true := by simp [zmC, Value.oneCell']
theorem u9 {s : Bs} {w W W2 : World} {k : Nat} (hp : PS w (k : Int) W2) (hbx : Boxed W2 (w.heap.size + 6) 9 (.string ⟨(aP s k).toArray⟩)) (hhs : HS w.heap.size (bH s (k + 1)) W2) (hok : OKR s k) (hne : aP s k ≠ []) (he : (bj (bH s k) (bT s k)).2 = 0)
    (hd : W2.heap[w.heap.size + 7]? = W.heap[w.heap.size + 7]?) (hl : W2.heap[w.heap.size + 8]? = W.heap[w.heap.size + 8]?) :
    ((W2.setCell ⟨w.heap.size + 5, 0, none⟩ (.int .i64 ((k : Int) + 1))).heap[w.heap.size + 7]? = W.heap[w.heap.size + 7]? ∧ (W2.setCell ⟨w.heap.size + 5, 0, none⟩ (.int .i64 ((k : Int) + 1))).heap[w.heap.size + 7 + 1]? = W.heap[w.heap.size + 7 + 1]?) ∧
      IYs s w k (W2.setCell ⟨w.heap.size + 5, 0, none⟩ (.int .i64 ((k : Int) + 1))) := by
  have hc := dO W2 (w.heap.size + 5) (.int .i64 ((k : Int) + 1))
  have hz := hp.sz
  refine ⟨⟨(hc.same _ (by omega) (by omega)).trans hd, (hc.same _ (by omega) (by omega)).trans hl⟩, ⟨hc.below hp.bl (Nat.le_refl _) (by omega), (hc.same _ (by omega) (by omega)).trans hp.b2, hc.boxed hp.b3 (by omega), hc.boxed hp.b4 (by omega), hc.boxed hp.b5 (by omega), hp.b6.set _, Nat.lt_of_lt_of_le hz hc.size⟩,
    hc.boxed hbx (by omega), kx hhs hc ⟨by omega, by omega⟩ hz, ra hok hne he⟩
theorem tI {s : Bs} {w W W2 W3 : World} {k : Nat} (hp : PS w (k : Int) W2) (hok : OKR s k) (he : ¬ (bj (bH s k) (bT s k)).2 = 0)
    (hd : W2.heap[w.heap.size + 7]? = W.heap[w.heap.size + 7]?) (hl : W2.heap[w.heap.size + 8]? = W.heap[w.heap.size + 8]?)
    (h3 : Chg w.heap.size W2 W3 ∧ W3.heap[w.heap.size]? = some (.cells zmC 29 (0, 0)) ∧ Boxed W3 (w.heap.size + 1) 3 (.int .i64 0) ∧ Boxed W3 (w.heap.size + 2) 32 (.int .i64 0)) :
    (((W3.setCell ⟨w.heap.size + 1, 0, none⟩ (.int .i64 ((k : Int) + 1))).setCell ⟨w.heap.size + 1 + 1, 0, none⟩ (.int .i64 (bj (bH s k) (bT s k)).2)).heap[w.heap.size + 7]? = W.heap[w.heap.size + 7]? ∧
      ((W3.setCell ⟨w.heap.size + 1, 0, none⟩ (.int .i64 ((k : Int) + 1))).setCell ⟨w.heap.size + 1 + 1, 0, none⟩ (.int .i64 (bj (bH s k) (bT s k)).2)).heap[w.heap.size + 7 + 1]? = W.heap[w.heap.size + 7 + 1]?) ∧
      IXs s w k ((W3.setCell ⟨w.heap.size + 1, 0, none⟩ (.int .i64 ((k : Int) + 1))).setCell ⟨w.heap.size + 1 + 1, 0, none⟩ (.int .i64 (bj (bH s k) (bT s k)).2)) := by
  obtain ⟨hc, h4, h5, h6⟩ := h3
  have hc1 := dO W3 (w.heap.size + 1) (.int .i64 ((k : Int) + 1))
  have hc2 := dO (W3.setCell ⟨w.heap.size + 1, 0, none⟩ (.int .i64 ((k : Int) + 1))) (w.heap.size + 1 + 1) (.int .i64 (bj (bH s k) (bT s k)).2)
  have hz := hp.sz
  have s3 := hc.size
  have s4 := hc1.size
  have hall : ∀ b, b ≠ w.heap.size → b ≠ w.heap.size + 1 → b ≠ w.heap.size + 1 + 1 → b < W2.heap.size → ((W3.setCell ⟨w.heap.size + 1, 0, none⟩ (.int .i64 ((k : Int) + 1))).setCell ⟨w.heap.size + 1 + 1, 0, none⟩ (.int .i64 (bj (bH s k) (bT s k)).2)).heap[b]? = W2.heap[b]? :=
    fun b q1 q2 q3 q4 => (hc2.same b q3 (by omega)).trans ((hc1.same b q2 (by omega)).trans (hc.same b q1 q4))
  refine ⟨⟨(hall _ (by omega) (by omega) (by omega) (by omega)).trans hd, (hall _ (by omega) (by omega) (by omega) (by omega)).trans hl⟩, ?_, ?_, ?_, ?_, he, hok⟩
  · exact hc2.below (hc1.below (hc.below hp.bl (Nat.le_refl _) (Nat.le_refl _)) (Nat.le_refl _) (by omega)) (Nat.le_refl _) (by omega)
  · exact (hc2.same _ (by omega) (by omega)).trans ((hc1.same _ (by omega) (by omega)).trans h4)
  · exact hc2.boxed (h5.set _) (by omega)
  · exact Boxed.set (B := w.heap.size + 1 + 1) _ (hc1.boxed h6 (by omega))
theorem qT {N : Nat} {r : RS} {W : World} (h : HS N r W) : ∃ v1 v2 v5 v6 v7, W.heap[N + 3]? = some (.cells #[.string ⟨r.nm.toArray⟩, v1, v2, .int .i64 r.inp, .int .i64 r.st, v5, v6, v7, .int .i64 (r.rd : Int), .int .i64 r.lf] 60 (0, 0)) ∧
    (v1.oneCell' = true ∧ v2.oneCell' = true ∧ v5.oneCell' = true ∧ v6.oneCell' = true) ∧
    (r.tb = true → Dat (XP N) W (.list .str) r.ins [v1] ∧ Dat (XP N) W (.list .str) r.outs [v2] ∧ Dat (XP N) W (.list (.list (.int .i64))) r.nx [v5] ∧ Dat (XP N) W (.list (.list (.int .i64))) r.ot [v6]) := by
  obtain ⟨σ, h1, h2⟩ := h
  obtain ⟨b, vs, e1, e2, e3⟩ := h1.ob 0 _ (mu ..)
  obtain ⟨_, ob, q1, _, q3⟩ := h2
  rw [mu] at q1; cases q1
  obtain ⟨b', q4, q5⟩ := q3 rfl rfl
  rw [e1] at q4
  have q6 : b = b' := by simpa [blk] using q4
  subst q6
  have q7 : b = N + 3 := by simpa using q5.symm
  subst q7
  have hav : ∀ o b, own (SH 60 45 3 r) σ o b → ¬ XP N b := fun o b ho => (h1.off o b ho).2
  have hk : ∀ {t : Ty} {d : t.den} {cs : List Value}, Dat (avd (dB Tryz.prog (XP N) W) (SH 60 45 3 r) σ) W t d cs → Dat (XP N) W t d cs := fun h => h.keep (Nat.le_refl _) (fun _ _ _ => rfl) fun b _ hb => .inl hb
  match vs, e3 with
  | [a0, a1, a2, a3, a4, a5, a6, a7, a8, a9], ⟨g0, g1, g2, g3, g4, g5, g6, g7, g8, g9, _⟩ =>
  obtain rfl : a0 = .string ⟨r.nm.toArray⟩ := g0.2
  obtain rfl : a3 = .int .i64 r.inp := g3.2
  obtain rfl : a4 = .int .i64 r.st := g4.2
  obtain rfl : a8 = .int .i64 (r.rd : Int) := g8.2
  obtain rfl : a9 = .int .i64 r.lf := g9.2
  refine ⟨a1, a2, a5, a6, a7, e2, ⟨g1.1, g2.1, g5.1, g6.1⟩, fun ht => ⟨hk g1.2, hk g2.2, ?_, ?_⟩⟩
  · have hA : rdA r = .rwc 1 0 := by unfold rdA; rw [if_pos ht]
    rw [hA] at g5
    obtain ⟨_, ob, p1, _, p3⟩ := g5
    rw [ep ht, q9] at p1; cases p1
    obtain ⟨_, p4⟩ := p3 rfl rfl
    rw [p4]
    exact mL h1 (by rw [ep ht]; exact q9 ..) (fun i hi => by rw [ep ht]; exact uj hi) hav
  · have hB : rdB r = .rwc (2 + r.nx.length) 0 := by unfold rdB; rw [if_pos ht]
    rw [hB] at g6
    obtain ⟨_, ob, p1, _, p3⟩ := g6
    rw [ep ht, tl] at p1; cases p1
    obtain ⟨_, p4⟩ := p3 rfl rfl
    rw [p4]
    exact mL h1 (by rw [ep ht]; exact tl ..) (fun i hi => by rw [ep ht]; exact uo hi) hav
theorem jW {F : Fence} {n : Nat} {P : Program} {o : Oper} {a : Act} {w : World} {K : Act → World → Prop} {Q : Go.Exit → Act → World → Prop} (ty : TypeId) (x y : Operand) (ho : o.op = .store ty x y)
    (g : Nat) (cells : Array Value) (hx : a.eval x = .pointer (some ⟨g, 0, none⟩)) (hy : a.eval y = .agg cells)
    (t : TypeId) (old : Array Value) (hg : w.heap[g]? = some (.cells old t (0, 0))) (hi : (P.info? ty).map (·.size) = some cells.size)
    (hold : old.size = cells.size) (h1 : cells.all (·.oneCell') = true)
    (h : ∀ W', Chg g w W' → W'.heap[g]? = some (.cells cells t (0, 0)) → K (a.put o.dst undef) W') : Oper.wpIn F n P o a w K Q := by
  unfold Oper.wpIn
  refine ⟨?_, ?_⟩
  · simp [Oper.about, ho]
  · rw [Oper.semAt_plain F _ _ (by rw [ho]; intro c hc'; cases hc')]
    unfold execOp
    simp only [ho, hx, hy, Instr.storeAt, Instr.sureAddr, Sem.run_bind, Sem.run_pure, Result.andThen_ok, run_storeVar_row w g t ty old cells hg hi hold h1]
    exact h _ (oZ w g cells) (setRow_heap w g _ _ t _ hg)
def MpQ (s : Bs) (w : World) (e : Ending) (W' : World) : Prop :=
  ∃ us : List Value, e = .returned (.tuple #[.agg us.toArray, .int .i64 (PM s).2.1, .int .i64 (PM s).2.2]) ∧ Below w.heap.size w W' ∧ ∀ C L σ, (∀ b, avd C L σ b → b < w.heap.size) → aQ (RC C L σ W') (PM s).1.cs us
theorem lE {F : Fence} {n : Nat} {s : Bs} {w W : World} {tmps : Array Value} {v0 v1 v2 v3 v4 v5 v6 : Value} {i er : Int}
    (t2 : tmps.getD 2 undef = .pointer (some ⟨w.heap.size, 0, none⟩)) (t3 : tmps.getD 3 undef = .pointer (some ⟨w.heap.size + 1, 0, none⟩)) (t4 : tmps.getD 4 undef = .pointer (some ⟨w.heap.size + 2, 0, none⟩))
    (hb : Below w.heap.size w W) (c2 : W.heap[w.heap.size]? = some (.cells #[v0, v1, v2, v3, v4, v5, v6] 29 (0, 0))) (c3 : Boxed W (w.heap.size + 1) 3 (.int .i64 i)) (c4 : Boxed W (w.heap.size + 2) 32 (.int .i64 er))
    (hD : W.heap[w.heap.size + 7]? = some (.deferred (some []))) (hpm : (PM s).2 = (i, er))
    (hcs : ∀ W', W.heap.size ≤ W'.heap.size → (∀ b, b < W.heap.size → ¬ XP w.heap.size b → W'.heap[b]? = W.heap[b]?) → ∀ C L σ, (∀ b, avd C L σ b → b < w.heap.size) → aQ (RC C L σ W') (PM s).1.cs [v0, v1, v2, v3, v4, v5, v6]) :
    bodyPostM F n Tryz.prog Tryz.f11 (MpQ s w) .ret { tmps := tmps, defers := [{ target := .collected (w.heap.size + 7), args := #[] }] } W := by
  have hc := iJ W (w.heap.size + 7) (.deferred none)
  have hlt := (Array.getElem?_eq_some_iff.1 hD).1
  have g2 := (hc.same w.heap.size (by omega) (by omega)).trans c2
  have g3 := hc.boxed c3 (by omega)
  have g4 := hc.boxed c4 (by omega)
  refine ⟨by simp, .inl ⟨_, _, rfl, run_takeDeferred hD, ?_⟩⟩
  refine ⟨.tuple #[.agg #[v0, v1, v2, v3, v4, v5, v6], .int .i64 i, .int .i64 er], ?_, [v0, v1, v2, v3, v4, v5, v6], by rw [hpm], hc.below hb (Nat.le_refl _) (by omega), fun C L σ hav => hcs _ hc.size (fun b hb2 hx => hc.same b (fun e => hx (by subst e; exact ⟨by omega, by omega⟩)) hb2) C L σ hav⟩
  have d0 := bo g2 0
  have d1 := bo g2 1
  have d2 := bo g2 2
  have d3 := bo g2 3
  have d4 := bo g2 4
  have d5 := bo g2 5
  have d6 := bo g2 6
  have e3 := g3.cell
  have e4 := g4.cell
  simp only [results, show Tryz.f11.results = #[.cell 2 29, .cell 3 3, .cell 4 32] by kernel_rfl]
  simp only [Array.getD_eq_getD_getElem?] at t2 t3 t4
  have i1 : (Tryz.prog.info? 29).map (fun i => i.size) = some 7 := by kernel_rfl
  simp [loadVar, asAddr, go_sem, t2, t3, t4, d0, d1, d2, d3, d4, d5, d6, e3, e4]
end
end Go.Proofs.YtmfkpljjhiglpaaGreatDoor
