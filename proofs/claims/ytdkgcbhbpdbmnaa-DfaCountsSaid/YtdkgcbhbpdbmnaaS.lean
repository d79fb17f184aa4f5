/- The law DfaCounts returns true for every input that it is handed (an automaton and a number), and leaves it as it was: the given statement DfaCountsSaid. Conditions: none. -/
import Derived.Test.YtdkgcbhbpdbmnaaW07
set_option linter.unusedSimpArgs false
set_option linter.unusedVariables false
namespace Go.Proofs.Ytdkgcbhbpdbmnaa
open Go Go.ChangeShapes Go.WideShapes Go.ChangeAt Go.RowKit Go.AV

theorem own0 : ownKnob Try.prog.godebug = none := by kernel_rfl
theorem laidOut0 : laidOutB Try.prog = true := by kernel_rfl
@[reducible] def tyArg25 : Ty := .pair (.int .i64) (.pair (.int .i64) (.pair (.list (.list (.int .i64))) (.pair (.list .bool) (.unit))))
theorem shArg25 : shOf Try.prog 8 25 = some tyArg25 := by kernel_rfl
theorem okWide_u8 {P : Program} {w : World} {r : Reach} {base : Nat} {t : TypeId} {v : Value} (ht : P.underlying t = some (.int .u8)) (h : Value.okWide P w r base t v) : ∃ n, (0 ≤ n ∧ n < 256) ∧ v = .int .u8 n := by
  simp only [Value.okWide, ht, Cell.okWide] at h
  cases v <;> simp_all [Cell.ok, IntKind.has, IntKind.min, IntKind.max, IntKind.signed, IntKind.bits]
  omega


set_option maxRecDepth 100000 in
theorem lifted8 (os : Os) (started : os.Started) (H : Type) (enc : TypeId × Value → H) :
    ReturnsInHanded {} Try.checked os 8 .any (Rows.dfaCountsSpec.pre6 enc Try.prog Try.f8 Rows.dfaCountsRow.domain false) (Rows.dfaCountsSpec.post enc Try.prog Try.f8 false true false false) := by
  refine returnsInHanded_of_change (C := Try.checked) own0 started (by kernel_rfl) Try.func8
    (ChangeSpec.witness6 (enc := enc) (C := Try.checked) false ⟨#[], #[.agg #[.int .i64 0, .int .i64 0, .slice none 0 0, .slice none 0 0], .int .u8 0], []⟩ 8 (by kernel_rfl) (by kernel_rfl) (by kernel_rfl) (by kernel_rfl)) ?_
  intro W base args ds gs before hval0 hW hcnd _
  have hval : ∀ (j : Nat) t v, Try.f8.params[j]? = some t → args[j]? = some v → Value.okWide Try.prog W .any base t v := hval0
  have hW' := hW
  obtain ⟨p, q, hA0, hV, rfl, hfz, hnd⟩ := hW
  have hA : DataW.TrodAll enc Try.prog W 0 (fun _ => true) true Try.f8.params.toList args.toList ds p := hA0
  rw [Try.params8] at hA hval
  obtain ⟨v0, v1, d0, d1, p0, p1, hargs, rfl, rfl, h0, h1⟩ := trodAll_two hA
  obtain ⟨rfl, rfl⟩ := trodVars_none hV
  have hargs' : args = #[v0, v1] := hargs
  subst hargs'
  obtain ⟨cs0, rfl, _⟩ := okWide_struct Try.underlying25 (hval 0 25 v0 rfl rfl)
  obtain ⟨fuel0, hf0⟩ := h0
  obtain ⟨D0, hD0⟩ := dat_of_trod shArg25 _ _ _ hf0
  obtain ⟨D1, hu1, rfl⟩ := okWide_u8 Try.underlying5 (hval 1 5 v1 rfl rfl)
  have hI : INV (Ctx.start Try.prog (fun _ => False) W 0) [] (fun _ => undef) W := inv_start fun b hb => hb.elim
  have hX : ∀ b, ¬ avd (Ctx.start Try.prog (fun _ => False) W 0) [] (fun _ => undef) b := by
    rintro b (hx | ⟨o, ob, e, _⟩)
    · exact hx
    · simp at e
  have hr0 : RV (Ctx.start Try.prog (fun _ => False) W 0) [] (fun _ => undef) W (Dof D0).av (.agg cs0) := rv_struct hX hD0
  refine ((law07f (Dof D0) D1 hu1).2 _ _ _ W [_, _] rfl hI ⟨hr0, ⟨rfl, rfl⟩, trivial⟩).mono fun e W' ⟨v, he, hm, hv⟩ => ?_
  have hv' : v = .bool true := hv.2
  subst hv'
  exact ⟨_, he, post_law hW' laidOut0 hm rfl (by decide +kernel) rfl rfl (fun _ _ _ => trodAll_mk1 (shut_bool Try.underlying4 _))⟩

theorem holds8 : Rows.DfaCountsSaid :=
  OpenClaim.holds_of_wide 8 Try.f8 rfl rfl rfl rfl rfl rfl rfl ⟨rfl, rfl, rfl, rfl, rfl⟩ rfl rfl rfl rfl rfl (by kernel_rfl) Try.func8 (by kernel_rfl)
    (of_decide_eq_true (by kernel_rfl)) (by unfold Func.isWrapper; first | (rw [if_pos (by decide +kernel)]; kernel_rfl) | (rw [if_neg (by decide +kernel)]; exact ⟨rfl, rfl⟩))
    (fun os started H enc _ => lifted8 os started H enc)

end Go.Proofs.Ytdkgcbhbpdbmnaa
