/- The law DfaLanguages returns true for every input that it is handed (two automata and a word), and leaves it as it was: the given statement DfaLanguagesSaid. Conditions: none. -/
import Derived.Test.YtdkgcbhbpdbmnaaW06
set_option linter.unusedSimpArgs false
set_option linter.unusedVariables false
namespace Go.Proofs.Ytdkgcbhbpdbmnaa
open Go Go.ChangeShapes Go.WideShapes Go.ChangeAt Go.RowKit Go.AV

theorem th : ownKnob Try.prog.godebug = none := by kernel_rfl
theorem pW : laidOutB Try.prog = true := by kernel_rfl
@[reducible] def sb : Ty := .pair (.int .i64) (.pair (.int .i64) (.pair (.list (.list (.int .i64))) (.pair (.list .bool) (.unit))))
theorem n7 : kc Try.prog 8 25 = some sb := by kernel_rfl
@[reducible] def qN : Ty := .list (.int .i64)
theorem rX : kc Try.prog 8 26 = some qN := by kernel_rfl

set_option maxRecDepth 100000 in
theorem lifted7 (os : Os) (started : os.Started) (H : Type) (enc : TypeId × Value → H) :
    ReturnsInHanded {} Try.checked os 7 .any (Rows.dfaLanguagesSpec.pre6 enc Try.prog Try.f7 Rows.dfaLanguagesRow.domain false) (Rows.dfaLanguagesSpec.post enc Try.prog Try.f7 false true false false) := by
  refine returnsInHanded_of_change (C := Try.checked) th started (by kernel_rfl) Try.func7
    (ChangeSpec.witness6 (enc := enc) (C := Try.checked) false ⟨#[], #[.agg #[.int .i64 0, .int .i64 0, .slice none 0 0, .slice none 0 0], .agg #[.int .i64 0, .int .i64 0, .slice none 0 0, .slice none 0 0], .slice none 0 0], []⟩ 8 (by kernel_rfl) (by kernel_rfl) (by kernel_rfl) (by kernel_rfl)) ?_
  intro W base args ds gs before hval0 hW hcnd _
  have hval : ∀ (j : Nat) t v, Try.f7.params[j]? = some t → args[j]? = some v → Value.okWide Try.prog W .any base t v := hval0
  have hW' := hW
  obtain ⟨p, q, hA0, hV, rfl, hfz, hnd⟩ := hW
  have hA : DataW.TrodAll enc Try.prog W 0 (fun _ => true) true Try.f7.params.toList args.toList ds p := hA0
  rw [Try.params7] at hA hval
  obtain ⟨v0, v1, v2, d0, d1, d2, p0, p1, p2, hargs, rfl, rfl, h0, h1, h2⟩ := trodAll_three hA
  obtain ⟨rfl, rfl⟩ := trodVars_none hV
  have hargs' : args = #[v0, v1, v2] := hargs
  subst hargs'
  obtain ⟨cs0, rfl, _⟩ := okWide_struct Try.underlying25 (hval 0 25 v0 rfl rfl)
  obtain ⟨fuel0, hf0⟩ := h0
  obtain ⟨D0, hD0⟩ := dN n7 _ _ _ hf0
  obtain ⟨cs1, rfl, _⟩ := okWide_struct Try.underlying25 (hval 1 25 v1 rfl rfl)
  obtain ⟨fuel1, hf1⟩ := h1
  obtain ⟨D1, hD1⟩ := dN n7 _ _ _ hf1
  have hk2 : v2.cells = #[v2] := by
    have := hval 2 26 v2 rfl rfl
    cases v2 with
    | agg cs => simp [Value.okWide, Cell.okWide, Cell.ok, Try.underlying26] at this
    | _ => rfl
  obtain ⟨fuel2, hf2⟩ := h2
  obtain ⟨D2, hD2⟩ := dN rX _ _ _ hf2
  rw [hk2] at hD2 hf2
  have hI : INV (Ctx.start Try.prog (fun _ => False) W 0) [] (fun _ => undef) W := kv fun b hb => hb.elim
  have hX : ∀ b, ¬ avd (Ctx.start Try.prog (fun _ => False) W 0) [] (fun _ => undef) b := by
    rintro b (hx | ⟨o, ob, e, _⟩)
    · exact hx
    · simp at e
  have hr0 : RV (Ctx.start Try.prog (fun _ => False) W 0) [] (fun _ => undef) W (Dof D0).av (.agg cs0) := jE hX hD0
  have hr1 : RV (Ctx.start Try.prog (fun _ => False) W 0) [] (fun _ => undef) W (Dof D1).av (.agg cs1) := jE hX hD1
  have hr2 : RV (Ctx.start Try.prog (fun _ => False) W 0) [] (fun _ => undef) W (.one (.list (.int .i64) D2)) v2 := rD hX hD2 rfl
  refine ((sQ (Dof D0) (Dof D1) D2).2 _ _ _ W [_, _, _] rfl hI ⟨hr0, hr1, hr2, trivial⟩).mono fun e W' ⟨v, he, hm, hv⟩ => ?_
  have hv' : v = .bool true := hv.2
  subst hv'
  exact ⟨_, he, pv hW' pW hm rfl (by decide +kernel) rfl rfl (fun _ _ _ => trodAll_mk1 (shut_bool Try.underlying4 _))⟩

theorem holds7 : Rows.DfaLanguagesSaid :=
  OpenClaim.holds_of_wide 7 Try.f7 rfl rfl rfl rfl rfl rfl rfl ⟨rfl, rfl, rfl, rfl, rfl⟩ rfl rfl rfl rfl rfl (by kernel_rfl) Try.func7 (by kernel_rfl)
    (of_decide_eq_true (by kernel_rfl)) (by unfold Func.isWrapper; first | (rw [if_pos (by decide +kernel)]; kernel_rfl) | (rw [if_neg (by decide +kernel)]; exact ⟨rfl, rfl⟩))
    (fun os started H enc _ => lifted7 os started H enc)

end Go.Proofs.Ytdkgcbhbpdbmnaa
