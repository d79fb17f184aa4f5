/- The law LogsTrips returns true for every input that it is handed (two alphabets and two logs), and leaves it as it was: the given statement LogsTripsCardSaid. Conditions: what the row lists. -/
import Derived.Test.YtfakhaagbimljaaDoorW04
import Derived.Test.YtfakhaagbimljaaDoorTie
import Derived.Test.YtfakhaagbimljaaDoorCards
import Derived.ProofKit
import Derived.LaidMore
import Derived.Lay
import Derived.MakeChecks
import Derived.Stop.Joined
import Derived.SevenTiedAt
import Derived.Shelf.Vars
set_option linter.unusedSimpArgs false
set_option linter.unusedVariables false
namespace Go.Proofs.YtfakhaagbimljaaDoor
open Go Go.ChangeShapes Go.WideShapes Go.ChangeAt Go.RowKit Go.AV

theorem un : ownKnob Tryd.prog.godebug = none := by kernel_rfl
theorem qu : laidOutB Tryd.prog = true := by kernel_rfl
@[reducible] def rC : Ty := .pair (.pair (.list .str) (.unit)) (.pair (.pair (.list .str) (.unit)) (.pair (.list (.pair (.list (.int .i64)) (.pair (.list (.int .i64)) (.unit)))) (.pair (.list (.pair (.list (.int .i64)) (.pair (.list (.int .i64)) (.unit)))) (.unit))))
theorem rF : lJ Tryd.prog 8 56 = some rC := by kernel_rfl
theorem t8 {H : Type} {enc : TypeId × Value → H} {a : Assume} {C : Checked} {os : Os} {f : FuncId} {fn : Func} {s : ChangeSpec} {conds : List PathCond} {apart fresh handsOn again : Bool} {X : World → Array Value → Prop}
    (hX : ∀ (w w' : World) (args : Array Value), w.heap = w'.heap → X w args → X w' args) (own : ownKnob C.prog.godebug = none) (started : os.Started) (noInit : C.prog.inits.idxOf? f = none) (hfn : C.prog.funcs[f]? = some fn)
    (witness : ∃ (w : World) (tape : Tape) (i : Input), w.os = os ∧ (w.forCall tape i).Shaped C.prog ∧ i.vars = [] ∧ Input.okWide C.prog (w.forCall tape i) .any w.heap.size f i ∧
      ((s.pre enc C.prog fn conds apart (w.forCall tape i).memory i.args ∧ X (w.forCall tape i).memory i.args) ∧ sizedMet enc C.prog fn (OpenSpec.ofChange s) apart (w.forCall tape i).memory i.args) ∧ a.holds C.prog (lone (Frame.enter C.prog f i.args .normal) [] (w.forCall tape i)))
    (contract : ∀ (W : World) (base : Nat) (args : Array Value) (ds gs : List (DataW H)) (before : List MemPlace), (∀ (j : Nat) t v, fn.params[j]? = some t → args[j]? = some v → Value.okWide C.prog W .any base t v) →
      DataW.Whole enc C.prog fn.params.toList s.vars apart W args.toList ds gs before → conds.all (PathCond.test C.prog ⟨fn.params.toList, ds, s.plain.varTypes C.prog, gs⟩) = true →
      (DataW.weightsEach C.prog (fn.params.toList ++ s.plain.varTypes C.prog) (ds ++ gs)).all (· ≤ reachBytes) = true → X W args → W.ShapedOpen C.prog → a.holds C.prog (lone (Frame.enter C.prog f args .normal) [] W) →
      Calls C.prog f args W fun e W' => ∃ v, e = .returned v ∧ s.post enc C.prog fn apart fresh handsOn again W args v W') :
    ReturnsInHanded a C os f .any (fun w args => (s.pre enc C.prog fn conds apart w args ∧ X w args) ∧ sizedMet enc C.prog fn (OpenSpec.ofChange s) apart w args) (s.post enc C.prog fn apart fresh handsOn again) := by
  refine returnsInHanded_of_calls own started noInit witness fun w tape i _ hsh _ hok hpre hholds => ?_
  obtain ⟨_, _, _, fn', hfn', _, _, _, _, hval⟩ := hok
  obtain rfl : fn' = fn := Option.some.inj (hfn'.symm.trans hfn)
  obtain ⟨⟨⟨ds, gs, before, hw, hc⟩, hx⟩, hz⟩ := hpre
  refine (contract (w.forCall tape i) w.heap.size i.args ds gs before hval (DataW.Whole.of_heap (w' := w.forCall tape i) (by rfl) hw) hc (hz.weights hw) (hX _ _ _ (by rfl) hx) hsh hholds).mono fun e W' ⟨v, he, hp⟩ => ?_
  subst he
  exact ChangeSpec.post_blind hp
theorem sm {W : World} (h : W.ShapedOpen Tryd.prog) : ∃ x, W.heap[0]? = some x ∧ MXL x := by
  have h0 : ((begin Tryd.prog (fun _ _ => 0) default).world.heap[0]?).bind Obj.row? = some (#[.int .i64 0], 3) := by kernel_rfl
  have hg : 0 < Tryd.prog.globals.size := by decide +kernel
  obtain ⟨cs, hh, hs, _⟩ := h.1 0 #[.int .i64 0] 3 hg h0
  obtain ⟨m, hm⟩ := Go.Proofs.cell_of_shapedOpen_int (k := .i64) h hg h0 rfl (by kernel_rfl) (by kernel_rfl) (by kernel_rfl)
  refine ⟨_, hh, m, 3, (0, 0), ?_⟩
  have hc : cs[0]? = some (.int .i64 m) := by simpa [World.cell?, hh] using hm
  have hs1 : cs.size = 1 := hs
  have : cs = #[.int .i64 m] := by
    apply Array.ext'
    match hq : cs.toList with
    | [] => rw [← Array.length_toList, hq] at hs1; simp at hs1
    | [x] => rw [← Array.getElem?_toList, hq] at hc; simp at hc; rw [hc]
    | _ :: _ :: _ => rw [← Array.length_toList, hq] at hs1; simp at hs1
  rw [this]


theorem qe (os : Os) (args : Array Value) : laidMetH Tryd.prog Rows.logsTripsRow.laid ((World.laidAll Tryd.prog os Rows.logsTripsRow.laid).forCall (fun _ _ => 0) ⟨#[], args, []⟩).memory := by
  rw [MakeChecks.laidMetH_plain _ _ _ (by kernel_rfl)]; exact laidMet_laidAll _ (by kernel_rfl) (by kernel_rfl)

set_option maxRecDepth 100000 in
theorem lifted6 (os : Os) (started : os.Started) (H : Type) (enc : TypeId × Value → H) :
    ReturnsInHanded {} Tryd.checked os 6 .any (fun w args => (Rows.logsTripsSpec.pre enc Tryd.prog Tryd.f6 Rows.logsTripsRow.domain false w args ∧ laidMetH Tryd.prog Rows.logsTripsRow.laid w) ∧ sizedMet enc Tryd.prog Tryd.f6 (OpenSpec.ofChange Rows.logsTripsSpec) false w args)
      (Rows.logsTripsSpec.post enc Tryd.prog Tryd.f6 false true false false) := by
  refine t8 (C := Tryd.checked) (X := fun w _ => laidMetH Tryd.prog Rows.logsTripsRow.laid w) (fun _ _ _ hh h => h.of_heap hh) un started (by kernel_rfl) Tryd.func6
    (ChangeSpec.witness_shaped (enc := enc) (C := Tryd.checked) (os := os) (X := fun w _ => laidMetH Tryd.prog Rows.logsTripsRow.laid w) false (World.laidAll Tryd.prog os Rows.logsTripsRow.laid) #[.agg #[.slice none 0 0, .slice none 0 0, .slice none 0 0, .slice none 0 0]] 8 (World.laidAll_os _ _ _) (World.shaped_of_ZipB (by kernel_rfl) (by kernel_rfl)) (by kernel_rfl) (by kernel_rfl) (by kernel_rfl) (qe os _)) ?_
  intro W base args ds gs before hval0 hW hcnd hsz hL hSh _
  have hval : ∀ (j : Nat) t v, Tryd.f6.params[j]? = some t → args[j]? = some v → Value.okWide Tryd.prog W .any base t v := hval0
  have hW' := hW
  obtain ⟨p, q, hA0, hV, rfl, hfz, hnd⟩ := hW
  have hA : DataW.TrodAll enc Tryd.prog W 0 (fun _ => true) true Tryd.f6.params.toList args.toList ds p := hA0
  rw [Tryd.params6] at hA hval
  obtain ⟨v0, d0, hargs, rfl, h0⟩ := trodAll_one hA
  obtain ⟨rfl, rfl⟩ := trodVars_none hV
  have hargs' : args = #[v0] := hargs
  subst hargs'
  obtain ⟨cs0, rfl, _⟩ := okWide_struct Tryd.underlying56 (hval 0 56 v0 rfl rfl)
  obtain ⟨fuel0, hf0⟩ := h0
  obtain ⟨D0, hD0⟩ := fh rF _ _ _ hf0
  obtain ⟨x9, hx9, hpw9⟩ := sm hSh
  have hX : ∀ b, ¬ avd (Ctx.start Tryd.prog (fun _ => False) W 0) [.fact 0 x9] (fun _ => undef) b := lU
  have hr0 : RV (Ctx.start Tryd.prog (fun _ => False) W 0) [.fact 0 x9] (fun _ => undef) W (AV.agg [AC.list .str D0.1.1, AC.list .str D0.2.1.1, AC.list (.pair (.list (.int .i64)) (.pair (.list (.int .i64)) .unit)) D0.2.2.1, AC.list (.pair (.list (.int .i64)) (.pair (.list (.int .i64)) .unit)) D0.2.2.2.1]) (.agg cs0) := oS hX hD0
  refine (qG (vs := [_]) (tx hpw9 D0.1.1 D0.2.1.1 D0.2.2.1 D0.2.2.2.1) hx9 ⟨hr0, trivial⟩).mono fun e W' ⟨v, he, hm, hv⟩ => ?_
  have hv' : v = .bool true := hv.2
  subst hv'
  exact ⟨_, he, qL hW' qu hm rfl (by decide +kernel) rfl rfl (fun _ _ _ => trodAll_mk1 (shut_bool Tryd.underlying4 _))⟩

theorem row6 : Rows.LogsTripsSaid :=
  OpenClaim.holds_of_wide 6 Tryd.f6 rfl rfl rfl rfl rfl rfl rfl ⟨rfl, rfl, rfl, rfl, rfl⟩ rfl rfl rfl rfl rfl (by kernel_rfl) Tryd.func6 (by kernel_rfl)
    (of_decide_eq_true (by kernel_rfl)) (by unfold Func.isWrapper; first | (rw [if_pos (by decide +kernel)]; kernel_rfl) | (rw [if_neg (by decide +kernel)]; exact ⟨rfl, rfl⟩))
    (fun os started H enc _ => lifted6 os started H enc)
theorem holds6 : Rows.LogsTripsCardSaid :=
  Claim7.holds_tied_plain_at .later [] [.data, .pinned] true (true, "2b4808d776ba1ae9f5f114534c5dd4341721b8d838486f58f7b4a033f10797fc") false
    row6 (fun _ h => by cases h) (by kernel_rfl) (fun _ h => by cases h) logsTrips_row_tie rfl ⟨rfl, rfl⟩ (by kernel_rfl) rfl
    (fun f fn hf hfn => by
      obtain rfl : f = 6 := Option.some.inj (hf.symm.trans (by kernel_rfl))
      obtain rfl : fn = Tryd.f6 := (Option.some.inj (Tryd.func6.symm.trans hfn)).symm
      exact ⟨by kernel_rfl, fun j t ht => by
        rw [Tryd.params6] at ht
        have hm : t ∈ [56] := by simpa using Array.mem_of_getElem? ht
        have hall : ([56].all fun u => !Tryd.prog.wantsStandIn u) = true := by kernel_rfl
        exact (show Tryd.prog.wantsStandIn t = false by simpa using List.all_eq_true.1 hall t hm)⟩)
    (by kernel_rfl)

end Go.Proofs.YtfakhaagbimljaaDoor
