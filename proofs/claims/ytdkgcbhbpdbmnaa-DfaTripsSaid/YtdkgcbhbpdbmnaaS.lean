/- The law DfaTrips returns true for every input that it is handed (an automaton and a word), and leaves it as it was: the given statement DfaTripsSaid. Conditions: none. -/
import Derived.Test.YtdkgcbhbpdbmnaaW06
set_option linter.unusedSimpArgs false
set_option linter.unusedVariables false
namespace Go.Proofs.Ytdkgcbhbpdbmnaa
open Go Go.ChangeShapes Go.WideShapes Go.ChangeAt Go.RowKit Go.AV

theorem t5 : ownKnob Try.prog.godebug = none := by kernel_rfl
theorem pI : laidOutB Try.prog = true := by kernel_rfl
@[reducible] def qE : Ty := .pair (.int .i64) (.pair (.int .i64) (.pair (.list (.list (.int .i64))) (.pair (.list .bool) (.unit))))
theorem qL : jU Try.prog 8 25 = some qE := by kernel_rfl
@[reducible] def qQ : Ty := .list (.int .i64)
theorem rj : jU Try.prog 8 26 = some qQ := by kernel_rfl

set_option maxRecDepth 100000 in
theorem lifted9 (os : Os) (started : os.Started) (H : Type) (enc : TypeId × Value → H) :
    ReturnsInHanded {} Try.checked os 9 .any (Rows.dfaTripsSpec.pre6 enc Try.prog Try.f9 Rows.dfaTripsRow.domain false) (Rows.dfaTripsSpec.post enc Try.prog Try.f9 false true false false) := by
  refine returnsInHanded_of_change (C := Try.checked) t5 started (by kernel_rfl) Try.func9
    (ChangeSpec.witness6 (enc := enc) (C := Try.checked) false ⟨#[], #[.agg #[.int .i64 0, .int .i64 0, .slice none 0 0, .slice none 0 0], .slice none 0 0], []⟩ 8 (by kernel_rfl) (by kernel_rfl) (by kernel_rfl) (by kernel_rfl)) ?_
  intro W base args ds gs before hval0 hW hcnd _
  have hval : ∀ (j : Nat) t v, Try.f9.params[j]? = some t → args[j]? = some v → Value.okWide Try.prog W .any base t v := hval0
  have hW' := hW
  obtain ⟨p, q, hA0, hV, rfl, hfz, hnd⟩ := hW
  have hA : DataW.TrodAll enc Try.prog W 0 (fun _ => true) true Try.f9.params.toList args.toList ds p := hA0
  rw [Try.params9] at hA hval
  obtain ⟨v0, v1, d0, d1, p0, p1, hargs, rfl, rfl, h0, h1⟩ := trodAll_two hA
  obtain ⟨rfl, rfl⟩ := trodVars_none hV
  have hargs' : args = #[v0, v1] := hargs
  subst hargs'
  obtain ⟨cs0, rfl, _⟩ := okWide_struct Try.underlying25 (hval 0 25 v0 rfl rfl)
  obtain ⟨fuel0, hf0⟩ := h0
  obtain ⟨D0, hD0⟩ := er qL _ _ _ hf0
  have hk1 : v1.cells = #[v1] := by
    have := hval 1 26 v1 rfl rfl
    cases v1 with
    | agg cs => simp [Value.okWide, Cell.okWide, Cell.ok, Try.underlying26] at this
    | _ => rfl
  obtain ⟨fuel1, hf1⟩ := h1
  obtain ⟨D1, hD1⟩ := er rj _ _ _ hf1
  rw [hk1] at hD1 hf1
  have hI : INV (Ctx.start Try.prog (fun _ => False) W 0) [] (fun _ => undef) W := ki fun b hb => hb.elim
  have hX : ∀ b, ¬ avd (Ctx.start Try.prog (fun _ => False) W 0) [] (fun _ => undef) b := by
    rintro b (hx | ⟨o, ob, e, _⟩)
    · exact hx
    · simp at e
  have hr0 : RV (Ctx.start Try.prog (fun _ => False) W 0) [] (fun _ => undef) W (Dof D0).av (.agg cs0) := nO hX hD0
  have hr1 : RV (Ctx.start Try.prog (fun _ => False) W 0) [] (fun _ => undef) W (.one (.list (.int .i64) D1)) v1 := qR hX hD1 rfl
  refine ((sD (Dof D0) D1).2 _ _ _ W [_, _] rfl hI ⟨hr0, hr1, trivial⟩).mono fun e W' ⟨v, he, hm, hv⟩ => ?_
  have hv' : v = .bool true := hv.2
  subst hv'
  exact ⟨_, he, pR hW' pI hm rfl (by decide +kernel) rfl rfl (fun _ _ _ => trodAll_mk1 (shut_bool Try.underlying4 _))⟩

theorem holds9 : Rows.DfaTripsSaid :=
  OpenClaim.holds_of_wide 9 Try.f9 rfl rfl rfl rfl rfl rfl rfl ⟨rfl, rfl, rfl, rfl, rfl⟩ rfl rfl rfl rfl rfl (by kernel_rfl) Try.func9 (by kernel_rfl)
    (of_decide_eq_true (by kernel_rfl)) (by unfold Func.isWrapper; first | (rw [if_pos (by decide +kernel)]; kernel_rfl) | (rw [if_neg (by decide +kernel)]; exact ⟨rfl, rfl⟩))
    (fun os started H enc _ => lifted9 os started H enc)

end Go.Proofs.Ytdkgcbhbpdbmnaa
