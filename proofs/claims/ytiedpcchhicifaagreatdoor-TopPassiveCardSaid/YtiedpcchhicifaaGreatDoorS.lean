/- The law TopPassive returns true for every machine and every list of words that it is handed, and leaves them as they were: the given statement TopPassiveCardSaid. Conditions: none. -/
import Derived.Test.YtiedpcchhicifaaGreatDoorW08
import Derived.Test.YtiedpcchhicifaaGreatDoorTie
import Derived.Test.YtiedpcchhicifaaGreatDoorCards
import Derived.ProofKit
import Derived.LaidMore
import Derived.Lay
import Derived.MakeChecks
import Derived.Stop.Joined
import Derived.SevenTiedAt
set_option linter.unusedSimpArgs false
set_option linter.unusedVariables false
namespace Go.Proofs.YtiedpcchhicifaaGreatDoor
open Go Go.ChangeShapes Go.WideShapes Go.ChangeAt Go.RowKit Go.AV

theorem Vw : ownKnob Tryz.prog.godebug = none := by kernel_rfl
theorem L6 : laidOutB Tryz.prog = true := by kernel_rfl
@[reducible] def Pd : Ty := .pair (.int .i64) (.pair (.int .i64) (.pair (.list (.list (.int .i64))) (.pair (.list (.list (.int .i64))) (.unit))))
theorem O1 : xX Tryz.prog 8 24 = some Pd := by kernel_rfl
@[reducible] def OE : Ty := .list (.list (.int .i64))
theorem LP : xX Tryz.prog 8 22 = some OE := by kernel_rfl

theorem Kc (os : Os) (args : Array Value) : laidMetH Tryz.prog Rows.topPassiveRow.laid ((World.doorLaid Tryz.prog 400 os).forCall (fun _ _ => 0) ⟨#[], args, []⟩).memory :=
  laidMetH_of_parts3 (fuel := 8) (laidMet_of_run' 8 (by kernel_rfl) (by kernel_rfl)) (by kernel_rfl) (by kernel_rfl)

set_option maxRecDepth 100000 in
theorem lifted3 (os : Os) (started : os.Started) (H : Type) (enc : TypeId × Value → H) :
    ReturnsInHanded {} Tryz.checked os 3 .any (fun w args => (Rows.topPassiveSpec.pre enc Tryz.prog Tryz.f3 Rows.topPassiveRow.domain false w args ∧ laidMetH Tryz.prog Rows.topPassiveRow.laid w) ∧ sizedMet enc Tryz.prog Tryz.f3 (OpenSpec.ofChange Rows.topPassiveSpec) false w args)
      (Rows.topPassiveSpec.post enc Tryz.prog Tryz.f3 false true false false) := by
  refine returnsInHanded_of_change_and (C := Tryz.checked) (X := fun w _ => laidMetH Tryz.prog Rows.topPassiveRow.laid w) (fun _ _ _ hh h => h.of_heap hh) Vw started (by kernel_rfl) Tryz.func3
    (ChangeSpec.witness_shaped (enc := enc) (C := Tryz.checked) (os := os) (X := fun w _ => laidMetH Tryz.prog Rows.topPassiveRow.laid w) false (World.doorLaid Tryz.prog 400 os) #[.agg #[.int .i64 0, .int .i64 0, .slice none 0 0, .slice none 0 0], .slice none 0 0] 8 rfl (World.shaped_of_RefB (by kernel_rfl) (by kernel_rfl)) (by kernel_rfl) (by kernel_rfl) (by kernel_rfl) (Kc os _)) ?_
  intro W base args ds gs before hval0 hW hcnd hsz hL _
  have hval : ∀ (j : Nat) t v, Tryz.f3.params[j]? = some t → args[j]? = some v → Value.okWide Tryz.prog W .any base t v := hval0
  have hW' := hW
  obtain ⟨p, q, hA0, hV, rfl, hfz, hnd⟩ := hW
  have hA : DataW.TrodAll enc Tryz.prog W 0 (fun _ => true) true Tryz.f3.params.toList args.toList ds p := hA0
  rw [Tryz.params3] at hA hval
  obtain ⟨v0, v1, d0, d1, p0, p1, hargs, rfl, rfl, h0, h1⟩ := trodAll_two hA
  obtain ⟨rfl, rfl⟩ := trodVars_none hV
  have hargs' : args = #[v0, v1] := hargs
  subst hargs'
  obtain ⟨cs0, rfl, _⟩ := okWide_struct Tryz.underlying24 (hval 0 24 v0 rfl rfl)
  obtain ⟨fuel0, hf0⟩ := h0
  obtain ⟨D0, hD0⟩ := jS O1 _ _ _ hf0
  have hk1 : v1.cells = #[v1] := by
    have := hval 1 22 v1 rfl rfl
    cases v1 with
    | agg cs => simp [Value.okWide, Cell.okWide, Cell.ok, Tryz.underlying22] at this
    | _ => rfl
  obtain ⟨fuel1, hf1⟩ := h1
  obtain ⟨D1, hD1⟩ := jS LP _ _ _ hf1
  rw [hk1] at hD1 hf1
  have hI : INV (Ctx.start Tryz.prog (fun _ => False) W 0) [] (fun _ => undef) W := wj fun b hb => hb.elim
  have hX : ∀ b, ¬ avd (Ctx.start Tryz.prog (fun _ => False) W 0) [] (fun _ => undef) b := by
    rintro b (hx | ⟨o, ob, e, _⟩)
    · exact hx
    · simp at e
  have hr0 : RV (Ctx.start Tryz.prog (fun _ => False) W 0) [] (fun _ => undef) W (Mof D0).av (.agg cs0) := FH hX hD0
  have hr1 : RV (Ctx.start Tryz.prog (fun _ => False) W 0) [] (fun _ => undef) W (.one (.list (.list (.int .i64)) D1)) v1 := M8 hX hD1 rfl
  refine ((UK (Mof D0) D1).2 _ _ _ W [_, _] rfl hI ⟨hr0, hr1, trivial⟩).mono fun e W' ⟨v, he, hm, hv⟩ => ?_
  have hv' : v = .bool true := hv.2
  subst hv'
  exact ⟨_, he, LE hW' L6 hm rfl (by decide +kernel) rfl rfl (fun _ _ _ => trodAll_mk1 (shut_bool Tryz.underlying4 _))⟩

theorem row3 : Rows.TopPassiveSaid :=
  OpenClaim.holds_of_wide 3 Tryz.f3 rfl rfl rfl rfl rfl rfl rfl ⟨rfl, rfl, rfl, rfl, rfl⟩ rfl rfl rfl rfl rfl (by kernel_rfl) Tryz.func3 (by kernel_rfl)
    (of_decide_eq_true (by kernel_rfl)) (by unfold Func.isWrapper; first | (rw [if_pos (by decide +kernel)]; kernel_rfl) | (rw [if_neg (by decide +kernel)]; exact ⟨rfl, rfl⟩))
    (fun os started H enc _ => lifted3 os started H enc)
theorem holds3 : Rows.TopPassiveCardSaid :=
  Claim7.holds_tied_plain_at .later [] [.data, .data, .data] true (true, "4d5c108610c562ad560f62143cf6cc2cb380c87772f0df718fe1d9617d2a7dfd") false
    row3 (fun _ h => by cases h) (by kernel_rfl) (fun _ h => by cases h) topPassive_row_tie rfl ⟨rfl, rfl⟩ (by kernel_rfl) rfl
    (fun f fn hf hfn => by
      obtain rfl : f = 3 := Option.some.inj (hf.symm.trans (by kernel_rfl))
      obtain rfl : fn = Tryz.f3 := (Option.some.inj (Tryz.func3.symm.trans hfn)).symm
      exact ⟨by kernel_rfl, fun j t ht => by
        rw [Tryz.params3] at ht
        have hm : t ∈ [24, 22] := by simpa using Array.mem_of_getElem? ht
        have hall : ([24, 22].all fun u => !Tryz.prog.wantsStandIn u) = true := by kernel_rfl
        exact (show Tryz.prog.wantsStandIn t = false by simpa using List.all_eq_true.1 hall t hm)⟩)
    (by kernel_rfl)

end Go.Proofs.YtiedpcchhicifaaGreatDoor
