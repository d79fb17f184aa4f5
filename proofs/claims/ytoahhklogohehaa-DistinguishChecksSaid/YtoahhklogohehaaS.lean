/- The law DistinguishChecks returns true for every input that it is handed (a machine and a tree), and leaves it as it was: the given statement DistinguishChecksSaid. Conditions: none. -/
import Derived.Test.YtoahhklogohehaaW06
set_option linter.unusedSimpArgs false
set_option linter.unusedVariables false
namespace Go.Proofs.Ytoahhklogohehaa
open Go Go.ChangeShapes Go.WideShapes Go.ChangeAt Go.RowKit Go.AV

theorem BJ : ownKnob Try.prog.godebug = none := by kernel_rfl
theorem xT : laidOutB Try.prog = true := by kernel_rfl
@[reducible] def y8 : Ty := .pair (.int .i64) (.pair (.int .i64) (.pair (.list (.list (.int .i64))) (.pair (.list (.list (.int .i64))) (.unit))))
theorem zf : oH Try.prog 8 24 = some y8 := by kernel_rfl
@[reducible] def yh : Ty := .pair (.list (.pair (.list (.int .i64)) (.pair (.int .i64) (.pair (.list (.pair (.int .i64) (.pair (.int .i64) (.unit)))) (.unit))))) (.unit)
theorem yt : oH Try.prog 8 29 = some yh := by kernel_rfl

set_option maxRecDepth 100000 in
theorem lifted4 (os : Os) (started : os.Started) (H : Type) (enc : TypeId × Value → H) :
    ReturnsInHanded {} Try.checked os 4 .any (Rows.distinguishChecksSpec.pre6 enc Try.prog Try.f4 Rows.distinguishChecksRow.domain false) (Rows.distinguishChecksSpec.post enc Try.prog Try.f4 false true false false) := by
  refine returnsInHanded_of_change (C := Try.checked) BJ started (by kernel_rfl) Try.func4
    (ChangeSpec.witness6 (enc := enc) (C := Try.checked) false ⟨#[], #[.agg #[.int .i64 0, .int .i64 0, .slice none 0 0, .slice none 0 0], .agg #[.slice none 0 0]], []⟩ 8 (by kernel_rfl) (by kernel_rfl) (by kernel_rfl) (by kernel_rfl)) ?_
  intro W base args ds gs before hval0 hW hcnd _
  have hval : ∀ (j : Nat) t v, Try.f4.params[j]? = some t → args[j]? = some v → Value.okWide Try.prog W .any base t v := hval0
  have hW' := hW
  obtain ⟨p, q, hA0, hV, rfl, hfz, hnd⟩ := hW
  have hA : DataW.TrodAll enc Try.prog W 0 (fun _ => true) true Try.f4.params.toList args.toList ds p := hA0
  rw [Try.params4] at hA hval
  obtain ⟨v0, v1, d0, d1, p0, p1, hargs, rfl, rfl, h0, h1⟩ := trodAll_two hA
  obtain ⟨rfl, rfl⟩ := trodVars_none hV
  have hargs' : args = #[v0, v1] := hargs
  subst hargs'
  obtain ⟨cs0, rfl, _⟩ := okWide_struct Try.underlying24 (hval 0 24 v0 rfl rfl)
  obtain ⟨fuel0, hf0⟩ := h0
  obtain ⟨D0, hD0⟩ := gS zf _ _ _ hf0
  obtain ⟨cs1, rfl, _⟩ := okWide_struct Try.underlying29 (hval 1 29 v1 rfl rfl)
  obtain ⟨fuel1, hf1⟩ := h1
  obtain ⟨D1, hD1⟩ := gS yt _ _ _ hf1
  have hI : INV (Ctx.start Try.prog (fun _ => False) W 0) [] (fun _ => undef) W := pU fun b hb => hb.elim
  have hX : ∀ b, ¬ avd (Ctx.start Try.prog (fun _ => False) W 0) [] (fun _ => undef) b := by
    rintro b (hx | ⟨o, ob, e, _⟩)
    · exact hx
    · simp at e
  have hr0 : RV (Ctx.start Try.prog (fun _ => False) W 0) [] (fun _ => undef) W (Mof D0).av (.agg cs0) := oG hX hD0
  have hr1 : RV (Ctx.start Try.prog (fun _ => False) W 0) [] (fun _ => undef) W (AV.agg [AC.list ndT D1.1]) (.agg cs1) := oG hX hD1
  refine ((Au (Mof D0) D1.1).2 _ _ _ W [_, _] rfl hI ⟨hr0, hr1, trivial⟩).mono fun e W' ⟨v, he, hm, hv⟩ => ?_
  have hv' : v = .bool true := hv.2
  subst hv'
  exact ⟨_, he, xr hW' xT hm rfl (by decide +kernel) rfl rfl (fun _ _ _ => trodAll_mk1 (shut_bool Try.underlying4 _))⟩

theorem holds4 : Rows.DistinguishChecksSaid :=
  OpenClaim.holds_of_wide 4 Try.f4 rfl rfl rfl rfl rfl rfl rfl ⟨rfl, rfl, rfl, rfl, rfl⟩ rfl rfl rfl rfl rfl (by kernel_rfl) Try.func4 (by kernel_rfl)
    (of_decide_eq_true (by kernel_rfl)) (by unfold Func.isWrapper; first | (rw [if_pos (by decide +kernel)]; kernel_rfl) | (rw [if_neg (by decide +kernel)]; exact ⟨rfl, rfl⟩))
    (fun os started H enc _ => lifted4 os started H enc)

end Go.Proofs.Ytoahhklogohehaa
