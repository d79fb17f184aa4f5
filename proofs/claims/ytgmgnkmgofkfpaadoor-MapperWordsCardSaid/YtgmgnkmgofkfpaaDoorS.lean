/- The law MapperWords returns true for every input that it is handed (a mapper and a word), and leaves it as it was: the given statement MapperWordsSaid. Conditions: none. -/
import Derived.Test.YtgmgnkmgofkfpaaDoorW05
import Derived.Test.YtgmgnkmgofkfpaaDoorTie
import Derived.Test.YtgmgnkmgofkfpaaDoorCards
import Derived.ProofKit
import Derived.LaidMore
import Derived.Stop.Joined
import Derived.SevenTiedAt
set_option linter.unusedSimpArgs false
set_option linter.unusedVariables false
namespace Go.Proofs.YtgmgnkmgofkfpaaDoor
open Go Go.ChangeShapes Go.WideShapes Go.ChangeAt Go.RowKit Go.AV

theorem qM : ownKnob Tryd.prog.godebug = none := by kernel_rfl
theorem nY : laidOutB Tryd.prog = true := by kernel_rfl
@[reducible] def p4 : Ty := .pair (.int .i64) (.pair (.int .i64) (.pair (.int .i64) (.pair (.list (.list (.int .i64))) (.pair (.list (.list (.int .i64))) (.unit)))))
theorem pA : jk Tryd.prog 8 24 = some p4 := by kernel_rfl
@[reducible] def p5 : Ty := .list (.int .i64)
theorem oX : jk Tryd.prog 8 25 = some p5 := by kernel_rfl

theorem nO (os : Os) (args : Array Value) : laidMetH Tryd.prog Rows.mapperWordsRow.laid ((World.doorLaid Tryd.prog 400 os).forCall (fun _ _ => 0) ⟨#[], args, []⟩).memory :=
  laidMetH_of_parts3 (fuel := 8) (laidMet_of_run' 8 (by kernel_rfl) (by kernel_rfl)) (by kernel_rfl) (by kernel_rfl)

set_option maxRecDepth 100000 in
theorem lifted4 (os : Os) (started : os.Started) (H : Type) (enc : TypeId × Value → H) :
    ReturnsInHanded {} Tryd.checked os 4 .any (fun w args => (Rows.mapperWordsSpec.pre enc Tryd.prog Tryd.f4 Rows.mapperWordsRow.domain false w args ∧ laidMetH Tryd.prog Rows.mapperWordsRow.laid w) ∧ sizedMet enc Tryd.prog Tryd.f4 (OpenSpec.ofChange Rows.mapperWordsSpec) false w args)
      (Rows.mapperWordsSpec.post enc Tryd.prog Tryd.f4 false true false false) := by
  refine returnsInHanded_of_change_and (C := Tryd.checked) (X := fun w _ => laidMetH Tryd.prog Rows.mapperWordsRow.laid w) (fun _ _ _ hh h => h.of_heap hh) qM started (by kernel_rfl) Tryd.func4
    (ChangeSpec.witness_shaped (enc := enc) (C := Tryd.checked) (os := os) (X := fun w _ => laidMetH Tryd.prog Rows.mapperWordsRow.laid w) false (World.doorLaid Tryd.prog 400 os) #[.agg #[.int .i64 0, .int .i64 0, .int .i64 0, .slice none 0 0, .slice none 0 0], .slice none 0 0] 8 rfl (World.shaped_of_RefB (by kernel_rfl) (by kernel_rfl)) (by kernel_rfl) (by kernel_rfl) (by kernel_rfl) (nO os _)) ?_
  intro W base args ds gs before hval0 hW hcnd hsz hL _
  have hval : ∀ (j : Nat) t v, Tryd.f4.params[j]? = some t → args[j]? = some v → Value.okWide Tryd.prog W .any base t v := hval0
  have hW' := hW
  obtain ⟨p, q, hA0, hV, rfl, hfz, hnd⟩ := hW
  have hA : DataW.TrodAll enc Tryd.prog W 0 (fun _ => true) true Tryd.f4.params.toList args.toList ds p := hA0
  rw [Tryd.params4] at hA hval
  obtain ⟨v0, v1, d0, d1, p0, p1, hargs, rfl, rfl, h0, h1⟩ := trodAll_two hA
  obtain ⟨rfl, rfl⟩ := trodVars_none hV
  have hargs' : args = #[v0, v1] := hargs
  subst hargs'
  obtain ⟨cs0, rfl, _⟩ := okWide_struct Tryd.underlying24 (hval 0 24 v0 rfl rfl)
  obtain ⟨fuel0, hf0⟩ := h0
  obtain ⟨D0, hD0⟩ := dD pA _ _ _ hf0
  have hk1 : v1.cells = #[v1] := by
    have := hval 1 25 v1 rfl rfl
    cases v1 with
    | agg cs => simp [Value.okWide, Cell.okWide, Cell.ok, Tryd.underlying25] at this
    | _ => rfl
  obtain ⟨fuel1, hf1⟩ := h1
  obtain ⟨D1, hD1⟩ := dD oX _ _ _ hf1
  rw [hk1] at hD1 hf1
  have hI : INV (Ctx.start Tryd.prog (fun _ => False) W 0) [] (fun _ => undef) W := j4 fun b hb => hb.elim
  have hX : ∀ b, ¬ avd (Ctx.start Tryd.prog (fun _ => False) W 0) [] (fun _ => undef) b := by
    rintro b (hx | ⟨o, ob, e, _⟩)
    · exact hx
    · simp at e
  have hr0 : RV (Ctx.start Tryd.prog (fun _ => False) W 0) [] (fun _ => undef) W (Pof D0).av (.agg cs0) := mu hX hD0
  have hr1 : RV (Ctx.start Tryd.prog (fun _ => False) W 0) [] (fun _ => undef) W (.one (.list (.int .i64) D1)) v1 := pl hX hD1 rfl
  refine ((pV (Pof D0) D1).2 _ _ _ W [_, _] rfl hI ⟨hr0, hr1, trivial⟩).mono fun e W' ⟨v, he, hm, hv⟩ => ?_
  have hv' : v = .bool true := hv.2
  subst hv'
  exact ⟨_, he, nq hW' nY hm rfl (by decide +kernel) rfl rfl (fun _ _ _ => trodAll_mk1 (shut_bool Tryd.underlying4 _))⟩

theorem row4 : Rows.MapperWordsSaid :=
  OpenClaim.holds_of_wide 4 Tryd.f4 rfl rfl rfl rfl rfl rfl rfl ⟨rfl, rfl, rfl, rfl, rfl⟩ rfl rfl rfl rfl rfl (by kernel_rfl) Tryd.func4 (by kernel_rfl)
    (of_decide_eq_true (by kernel_rfl)) (by unfold Func.isWrapper; first | (rw [if_pos (by decide +kernel)]; kernel_rfl) | (rw [if_neg (by decide +kernel)]; exact ⟨rfl, rfl⟩))
    (fun os started H enc _ => lifted4 os started H enc)
theorem holds4 : Rows.MapperWordsCardSaid :=
  Claim7.holds_tied_plain_at .later [] [.data, .data, .data] true (true, "263c410bb7dba791ba222f686c41a3a7a7ac1f979230d67aa7f6dd32e990f127") false
    row4 (fun _ h => by cases h) (by kernel_rfl) (fun _ h => by cases h) mapperWords_row_tie rfl ⟨rfl, rfl⟩ (by kernel_rfl) rfl
    (fun f fn hf hfn => by
      obtain rfl : f = 4 := Option.some.inj (hf.symm.trans (by kernel_rfl))
      obtain rfl : fn = Tryd.f4 := (Option.some.inj (Tryd.func4.symm.trans hfn)).symm
      exact ⟨by kernel_rfl, fun j t ht => by
        rw [Tryd.params4] at ht
        have hm : t ∈ [24, 25] := by simpa using Array.mem_of_getElem? ht
        have hall : ([24, 25].all fun u => !Tryd.prog.wantsStandIn u) = true := by kernel_rfl
        exact (show Tryd.prog.wantsStandIn t = false by simpa using List.all_eq_true.1 hall t hm)⟩)
    (by kernel_rfl)

end Go.Proofs.YtgmgnkmgofkfpaaDoor
