/- The law MapperFollows returns true for every input that it is handed (a machine, a mapper and a word), and leaves it as it was: the given statement MapperFollowsSaid. Conditions: none. -/
import Derived.Test.YtgmgnkmgofkfpaaDoorW06
import Derived.Test.YtgmgnkmgofkfpaaDoorTie
import Derived.Test.YtgmgnkmgofkfpaaDoorCards
import Derived.ProofKit
import Derived.LaidMore
import Derived.Stop.Joined
import Derived.SevenTiedAt
set_option linter.unusedSimpArgs false
set_option linter.unusedVariables false
namespace Go.Proofs.YtgmgnkmgofkfpaaDoor
open Go Go.ChangeShapes Go.WideShapes Go.ChangeAt Go.RowKit Go.AV

theorem sO : ownKnob Tryd.prog.godebug = none := by kernel_rfl
theorem p6 : laidOutB Tryd.prog = true := by kernel_rfl
@[reducible] def pR : Ty := .pair (.int .i64) (.pair (.int .i64) (.pair (.list (.list (.int .i64))) (.pair (.list (.list (.int .i64))) (.unit))))
theorem pP : iV Tryd.prog 8 47 = some pR := by kernel_rfl
@[reducible] def pY : Ty := .pair (.int .i64) (.pair (.int .i64) (.pair (.int .i64) (.pair (.list (.list (.int .i64))) (.pair (.list (.list (.int .i64))) (.unit)))))
theorem qX : iV Tryd.prog 8 24 = some pY := by kernel_rfl
@[reducible] def qD : Ty := .list (.int .i64)
theorem qc : iV Tryd.prog 8 25 = some qD := by kernel_rfl

theorem oO (os : Os) (args : Array Value) : laidMetH Tryd.prog Rows.mapperFollowsRow.laid ((World.doorLaid Tryd.prog 400 os).forCall (fun _ _ => 0) ⟨#[], args, []⟩).memory :=
  laidMetH_of_parts3 (fuel := 8) (laidMet_of_run' 8 (by kernel_rfl) (by kernel_rfl)) (by kernel_rfl) (by kernel_rfl)

set_option maxRecDepth 100000 in
theorem lifted7 (os : Os) (started : os.Started) (H : Type) (enc : TypeId × Value → H) :
    ReturnsInHanded {} Tryd.checked os 7 .any (fun w args => (Rows.mapperFollowsSpec.pre enc Tryd.prog Tryd.f7 Rows.mapperFollowsRow.domain false w args ∧ laidMetH Tryd.prog Rows.mapperFollowsRow.laid w) ∧ sizedMet enc Tryd.prog Tryd.f7 (OpenSpec.ofChange Rows.mapperFollowsSpec) false w args)
      (Rows.mapperFollowsSpec.post enc Tryd.prog Tryd.f7 false true false false) := by
  refine returnsInHanded_of_change_and (C := Tryd.checked) (X := fun w _ => laidMetH Tryd.prog Rows.mapperFollowsRow.laid w) (fun _ _ _ hh h => h.of_heap hh) sO started (by kernel_rfl) Tryd.func7
    (ChangeSpec.witness_shaped (enc := enc) (C := Tryd.checked) (os := os) (X := fun w _ => laidMetH Tryd.prog Rows.mapperFollowsRow.laid w) false (World.doorLaid Tryd.prog 400 os) #[.agg #[.int .i64 0, .int .i64 0, .slice none 0 0, .slice none 0 0], .agg #[.int .i64 0, .int .i64 0, .int .i64 0, .slice none 0 0, .slice none 0 0], .slice none 0 0] 8 rfl (World.shaped_of_RefB (by kernel_rfl) (by kernel_rfl)) (by kernel_rfl) (by kernel_rfl) (by kernel_rfl) (oO os _)) ?_
  intro W base args ds gs before hval0 hW hcnd hsz hL _
  have hval : ∀ (j : Nat) t v, Tryd.f7.params[j]? = some t → args[j]? = some v → Value.okWide Tryd.prog W .any base t v := hval0
  have hW' := hW
  obtain ⟨p, q, hA0, hV, rfl, hfz, hnd⟩ := hW
  have hA : DataW.TrodAll enc Tryd.prog W 0 (fun _ => true) true Tryd.f7.params.toList args.toList ds p := hA0
  rw [Tryd.params7] at hA hval
  obtain ⟨v0, v1, v2, d0, d1, d2, p0, p1, p2, hargs, rfl, rfl, h0, h1, h2⟩ := trodAll_three hA
  obtain ⟨rfl, rfl⟩ := trodVars_none hV
  have hargs' : args = #[v0, v1, v2] := hargs
  subst hargs'
  obtain ⟨cs0, rfl, _⟩ := okWide_struct Tryd.underlying47 (hval 0 47 v0 rfl rfl)
  obtain ⟨fuel0, hf0⟩ := h0
  obtain ⟨D0, hD0⟩ := dr pP _ _ _ hf0
  obtain ⟨cs1, rfl, _⟩ := okWide_struct Tryd.underlying24 (hval 1 24 v1 rfl rfl)
  obtain ⟨fuel1, hf1⟩ := h1
  obtain ⟨D1, hD1⟩ := dr qX _ _ _ hf1
  have hk2 : v2.cells = #[v2] := by
    have := hval 2 25 v2 rfl rfl
    cases v2 with
    | agg cs => simp [Value.okWide, Cell.okWide, Cell.ok, Tryd.underlying25] at this
    | _ => rfl
  obtain ⟨fuel2, hf2⟩ := h2
  obtain ⟨D2, hD2⟩ := dr qc _ _ _ hf2
  rw [hk2] at hD2 hf2
  have hI : INV (Ctx.start Tryd.prog (fun _ => False) W 0) [] (fun _ => undef) W := jG fun b hb => hb.elim
  have hX : ∀ b, ¬ avd (Ctx.start Tryd.prog (fun _ => False) W 0) [] (fun _ => undef) b := by
    rintro b (hx | ⟨o, ob, e, _⟩)
    · exact hx
    · simp at e
  have hr0 : RV (Ctx.start Tryd.prog (fun _ => False) W 0) [] (fun _ => undef) W (Mof D0).av (.agg cs0) := jj hX hD0
  have hr1 : RV (Ctx.start Tryd.prog (fun _ => False) W 0) [] (fun _ => undef) W (Pof D1).av (.agg cs1) := jj hX hD1
  have hr2 : RV (Ctx.start Tryd.prog (fun _ => False) W 0) [] (fun _ => undef) W (.one (.list (.int .i64) D2)) v2 := pK hX hD2 rfl
  refine ((rM (Mof D0) (Pof D1) D2).2 _ _ _ W [_, _, _] rfl hI ⟨hr0, hr1, hr2, trivial⟩).mono fun e W' ⟨v, he, hm, hv⟩ => ?_
  have hv' : v = .bool true := hv.2
  subst hv'
  exact ⟨_, he, p8 hW' p6 hm rfl (by decide +kernel) rfl rfl (fun _ _ _ => trodAll_mk1 (shut_bool Tryd.underlying4 _))⟩

theorem row7 : Rows.MapperFollowsSaid :=
  OpenClaim.holds_of_wide 7 Tryd.f7 rfl rfl rfl rfl rfl rfl rfl ⟨rfl, rfl, rfl, rfl, rfl⟩ rfl rfl rfl rfl rfl (by kernel_rfl) Tryd.func7 (by kernel_rfl)
    (of_decide_eq_true (by kernel_rfl)) (by unfold Func.isWrapper; first | (rw [if_pos (by decide +kernel)]; kernel_rfl) | (rw [if_neg (by decide +kernel)]; exact ⟨rfl, rfl⟩))
    (fun os started H enc _ => lifted7 os started H enc)
theorem holds7 : Rows.MapperFollowsCardSaid :=
  Claim7.holds_tied_plain_at .later [] [.data, .data, .data] true (true, "263c410bb7dba791ba222f686c41a3a7a7ac1f979230d67aa7f6dd32e990f127") false
    row7 (fun _ h => by cases h) (by kernel_rfl) (fun _ h => by cases h) mapperFollows_row_tie rfl ⟨rfl, rfl⟩ (by kernel_rfl) rfl
    (fun f fn hf hfn => by
      obtain rfl : f = 7 := Option.some.inj (hf.symm.trans (by kernel_rfl))
      obtain rfl : fn = Tryd.f7 := (Option.some.inj (Tryd.func7.symm.trans hfn)).symm
      exact ⟨by kernel_rfl, fun j t ht => by
        rw [Tryd.params7] at ht
        have hm : t ∈ [47, 24, 25] := by simpa using Array.mem_of_getElem? ht
        have hall : ([47, 24, 25].all fun u => !Tryd.prog.wantsStandIn u) = true := by kernel_rfl
        exact (show Tryd.prog.wantsStandIn t = false by simpa using List.all_eq_true.1 hall t hm)⟩)
    (by kernel_rfl)

end Go.Proofs.YtgmgnkmgofkfpaaDoor
