/- The law ComposeChanged returns true for every input that it is handed (a machine, two lists and a word), and leaves it as it was: the given statement ComposeChangedSaid. Conditions: none. -/
import Derived.Test.YtfbnhgefkdhiaaaW04
set_option linter.unusedSimpArgs false
set_option linter.unusedVariables false
namespace Go.Proofs.Ytfbnhgefkdhiaaa
open Go Go.ChangeShapes Go.WideShapes Go.ChangeAt Go.RowKit Go.AV

theorem own0 : ownKnob Try.prog.godebug = none := by kernel_rfl
theorem laidOut0 : laidOutB Try.prog = true := by kernel_rfl
@[reducible] def tyArg24 : Ty := .pair (.int .i64) (.pair (.int .i64) (.pair (.list (.list (.int .i64))) (.pair (.list (.list (.int .i64))) (.unit))))
theorem shArg24 : shOf Try.prog 8 24 = some tyArg24 := by kernel_rfl
@[reducible] def tyArg42 : Ty := .pair (.list (.int .i64)) (.pair (.list (.int .i64)) (.unit))
theorem shArg42 : shOf Try.prog 8 33 = some (.list (.int .i64)) := by kernel_rfl
theorem clArg42 : Try.prog.cellsOf 42 = 2 * Try.prog.cellsOf 33 := by kernel_rfl
@[reducible] def tyArg33 : Ty := .list (.int .i64)
theorem shArg33 : shOf Try.prog 8 33 = some tyArg33 := by kernel_rfl

set_option maxRecDepth 100000 in
theorem lifted7 (os : Os) (started : os.Started) (H : Type) (enc : TypeId × Value → H) :
    ReturnsInHanded {} Try.checked os 7 .any (Rows.composeChangedSpec.pre6 enc Try.prog Try.f7 Rows.composeChangedRow.domain false) (Rows.composeChangedSpec.post enc Try.prog Try.f7 false true false false) := by
  refine returnsInHanded_of_change_sized (C := Try.checked) own0 started (by kernel_rfl) Try.func7
    (ChangeSpec.witness6 (enc := enc) (C := Try.checked) false ⟨#[], #[.agg #[.int .i64 0, .int .i64 0, .slice none 0 0, .slice none 0 0], .agg #[.slice none 0 0, .slice none 0 0], .slice none 0 0], []⟩ 8 (by kernel_rfl) (by kernel_rfl) (by kernel_rfl) (by kernel_rfl)) ?_
  intro W base args ds gs before hval0 hW hcnd hsz _
  have hval : ∀ (j : Nat) t v, Try.f7.params[j]? = some t → args[j]? = some v → Value.okWide Try.prog W .any base t v := hval0
  have hW' := hW
  obtain ⟨p, q, hA0, hV, rfl, hfz, hnd⟩ := hW
  have hA : DataW.TrodAll enc Try.prog W 0 (fun _ => true) true Try.f7.params.toList args.toList ds p := hA0
  rw [Try.params7] at hA hval
  obtain ⟨v0, v1, v2, d0, d1, d2, p0, p1, p2, hargs, rfl, rfl, h0, h1, h2⟩ := trodAll_three hA
  obtain ⟨rfl, rfl⟩ := trodVars_none hV
  have hargs' : args = #[v0, v1, v2] := hargs
  subst hargs'
  obtain ⟨cs0, rfl, _⟩ := okWide_struct Try.underlying24 (hval 0 24 v0 rfl rfl)
  obtain ⟨fuel0, hf0⟩ := h0
  obtain ⟨D0, hD0⟩ := dat_of_trod shArg24 _ _ _ hf0
  obtain ⟨cs1, rfl, _⟩ := okWide_array2 Try.underlying42 (hval 1 42 v1 rfl rfl)
  obtain ⟨fuel1, hf1⟩ := h1
  obtain ⟨D1, hD1⟩ := dat_arr2 Try.underlying42 clArg42 shArg42 hf1
  have hk2 : v2.cells = #[v2] := by
    have := hval 2 33 v2 rfl rfl
    cases v2 with
    | agg cs => simp [Value.okWide, Cell.okWide, Cell.ok, Try.underlying33] at this
    | _ => rfl
  obtain ⟨fuel2, hf2⟩ := h2
  obtain ⟨D2, hD2⟩ := dat_of_trod shArg33 _ _ _ hf2
  rw [hk2] at hD2 hf2
  have hsz' : (DataW.weightsEach Try.prog [24, 42, 33] [d0, d1, d2]).all (· ≤ reachBytes) = true := hsz
  have hb2 : D2.length * 8 ≤ 140737488355328 := by
    rcases len_of_trod Try.underlying33 hf2 hD2 with h | ⟨el, sp, e1, e2⟩
    · rw [h]; simp
    · have := sized_slice (j := 2) hsz' rfl (by rw [e1]; rfl) Try.underlying33
      rw [show Try.prog.bytesOf 3 = 8 by kernel_rfl] at this
      have h47 := reachBytes_lt
      omega
  have hI : INV (Ctx.start Try.prog (fun _ => False) W 0) [] (fun _ => undef) W := inv_start fun b hb => hb.elim
  have hX : ∀ b, ¬ avd (Ctx.start Try.prog (fun _ => False) W 0) [] (fun _ => undef) b := by
    rintro b (hx | ⟨o, ob, e, _⟩)
    · exact hx
    · simp at e
  have hr0 : RV (Ctx.start Try.prog (fun _ => False) W 0) [] (fun _ => undef) W (Mof D0).av (.agg cs0) := rv_struct hX hD0
  have hr1 : RV (Ctx.start Try.prog (fun _ => False) W 0) [] (fun _ => undef) W (AV.agg [AC.list (.int .i64) D1.1, AC.list (.int .i64) D1.2.1]) (.agg cs1) := rv_struct hX hD1
  have hr2 : RV (Ctx.start Try.prog (fun _ => False) W 0) [] (fun _ => undef) W (.one (.list (.int .i64) D2)) v2 := rv_cell hX hD2 rfl
  refine ((law14f (Mof D0) D1.1 D1.2.1 D2 hb2).2 _ _ _ W [_, _, _] rfl hI ⟨hr0, hr1, hr2, trivial⟩).mono fun e W' ⟨v, he, hm, hv⟩ => ?_
  have hv' : v = .bool true := hv.2
  subst hv'
  exact ⟨_, he, post_law hW' laidOut0 hm rfl (by decide +kernel) rfl rfl (fun _ _ _ => trodAll_mk1 (shut_bool Try.underlying4 _))⟩

theorem holds7 : Rows.ComposeChangedSaid :=
  OpenClaim.holds_of_wide 7 Try.f7 rfl rfl rfl rfl rfl rfl rfl ⟨rfl, rfl, rfl, rfl, rfl⟩ rfl rfl rfl rfl rfl (by kernel_rfl) Try.func7 (by kernel_rfl)
    (of_decide_eq_true (by kernel_rfl)) (by unfold Func.isWrapper; first | (rw [if_pos (by decide +kernel)]; kernel_rfl) | (rw [if_neg (by decide +kernel)]; exact ⟨rfl, rfl⟩))
    (fun os started H enc _ => lifted7 os started H enc)

end Go.Proofs.Ytfbnhgefkdhiaaa
