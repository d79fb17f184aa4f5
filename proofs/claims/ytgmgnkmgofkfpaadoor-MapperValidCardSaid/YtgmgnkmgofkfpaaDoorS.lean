/- The law MapperValid returns true for every input that it is handed (a mapper and a list of classes), and leaves it as it was: the given statement MapperValidSaid. Conditions: none. -/
import Derived.Test.YtgmgnkmgofkfpaaDoorW04
import Derived.Test.YtgmgnkmgofkfpaaDoorTie
import Derived.Test.YtgmgnkmgofkfpaaDoorCards
import Derived.ProofKit
import Derived.LaidMore
import Derived.Stop.Joined
import Derived.SevenTiedAt
set_option linter.unusedSimpArgs false
set_option linter.unusedVariables false
namespace Go.Proofs.YtgmgnkmgofkfpaaDoor
open Go Go.ChangeShapes Go.WideShapes Go.ChangeAt Go.RowKit Go.AV

theorem qx : ownKnob Tryd.prog.godebug = none := by kernel_rfl
theorem nf : laidOutB Tryd.prog = true := by kernel_rfl
@[reducible] def ow : Ty := .pair (.int .i64) (.pair (.int .i64) (.pair (.int .i64) (.pair (.list (.list (.int .i64))) (.pair (.list (.list (.int .i64))) (.unit)))))
theorem p7 : ja Tryd.prog 8 24 = some ow := by kernel_rfl
@[reducible] def oV : Ty := .list (.int .i64)
theorem oN : ja Tryd.prog 8 25 = some oV := by kernel_rfl

theorem nw (os : Os) (args : Array Value) : laidMetH Tryd.prog Rows.mapperValidRow.laid ((World.doorLaid Tryd.prog 400 os).forCall (fun _ _ => 0) ⟨#[], args, []⟩).memory :=
  laidMetH_of_parts3 (fuel := 8) (laidMet_of_run' 8 (by kernel_rfl) (by kernel_rfl)) (by kernel_rfl) (by kernel_rfl)

set_option maxRecDepth 100000 in
theorem lifted3 (os : Os) (started : os.Started) (H : Type) (enc : TypeId × Value → H) :
    ReturnsInHanded {} Tryd.checked os 3 .any (fun w args => (Rows.mapperValidSpec.pre enc Tryd.prog Tryd.f3 Rows.mapperValidRow.domain false w args ∧ laidMetH Tryd.prog Rows.mapperValidRow.laid w) ∧ sizedMet enc Tryd.prog Tryd.f3 (OpenSpec.ofChange Rows.mapperValidSpec) false w args)
      (Rows.mapperValidSpec.post enc Tryd.prog Tryd.f3 false true false false) := by
  refine returnsInHanded_of_change_and (C := Tryd.checked) (X := fun w _ => laidMetH Tryd.prog Rows.mapperValidRow.laid w) (fun _ _ _ hh h => h.of_heap hh) qx started (by kernel_rfl) Tryd.func3
    (ChangeSpec.witness_shaped (enc := enc) (C := Tryd.checked) (os := os) (X := fun w _ => laidMetH Tryd.prog Rows.mapperValidRow.laid w) false (World.doorLaid Tryd.prog 400 os) #[.agg #[.int .i64 0, .int .i64 0, .int .i64 0, .slice none 0 0, .slice none 0 0], .slice none 0 0] 8 rfl (World.shaped_of_RefB (by kernel_rfl) (by kernel_rfl)) (by kernel_rfl) (by kernel_rfl) (by kernel_rfl) (nw os _)) ?_
  intro W base args ds gs before hval0 hW hcnd hsz hL _
  have hval : ∀ (j : Nat) t v, Tryd.f3.params[j]? = some t → args[j]? = some v → Value.okWide Tryd.prog W .any base t v := hval0
  have hW' := hW
  obtain ⟨p, q, hA0, hV, rfl, hfz, hnd⟩ := hW
  have hA : DataW.TrodAll enc Tryd.prog W 0 (fun _ => true) true Tryd.f3.params.toList args.toList ds p := hA0
  rw [Tryd.params3] at hA hval
  obtain ⟨v0, v1, d0, d1, p0, p1, hargs, rfl, rfl, h0, h1⟩ := trodAll_two hA
  obtain ⟨rfl, rfl⟩ := trodVars_none hV
  have hargs' : args = #[v0, v1] := hargs
  subst hargs'
  obtain ⟨cs0, rfl, _⟩ := okWide_struct Tryd.underlying24 (hval 0 24 v0 rfl rfl)
  obtain ⟨fuel0, hf0⟩ := h0
  obtain ⟨D0, hD0⟩ := dz p7 _ _ _ hf0
  have hk1 : v1.cells = #[v1] := by
    have := hval 1 25 v1 rfl rfl
    cases v1 with
    | agg cs => simp [Value.okWide, Cell.okWide, Cell.ok, Tryd.underlying25] at this
    | _ => rfl
  obtain ⟨fuel1, hf1⟩ := h1
  obtain ⟨D1, hD1⟩ := dz oN _ _ _ hf1
  rw [hk1] at hD1 hf1
  have hI : INV (Ctx.start Tryd.prog (fun _ => False) W 0) [] (fun _ => undef) W := iU fun b hb => hb.elim
  have hX : ∀ b, ¬ avd (Ctx.start Tryd.prog (fun _ => False) W 0) [] (fun _ => undef) b := by
    rintro b (hx | ⟨o, ob, e, _⟩)
    · exact hx
    · simp at e
  have hr0 : RV (Ctx.start Tryd.prog (fun _ => False) W 0) [] (fun _ => undef) W (Pof D0).av (.agg cs0) := m7 hX hD0
  have hr1 : RV (Ctx.start Tryd.prog (fun _ => False) W 0) [] (fun _ => undef) W (.one (.list (.int .i64) D1)) v1 := nM hX hD1 rfl
  refine ((pS (Pof D0) D1).2 _ _ _ W [_, _] rfl hI ⟨hr0, hr1, trivial⟩).mono fun e W' ⟨v, he, hm, hv⟩ => ?_
  have hv' : v = .bool true := hv.2
  subst hv'
  exact ⟨_, he, mW hW' nf hm rfl (by decide +kernel) rfl rfl (fun _ _ _ => trodAll_mk1 (shut_bool Tryd.underlying4 _))⟩

theorem row3 : Rows.MapperValidSaid :=
  OpenClaim.holds_of_wide 3 Tryd.f3 rfl rfl rfl rfl rfl rfl rfl ⟨rfl, rfl, rfl, rfl, rfl⟩ rfl rfl rfl rfl rfl (by kernel_rfl) Tryd.func3 (by kernel_rfl)
    (of_decide_eq_true (by kernel_rfl)) (by unfold Func.isWrapper; first | (rw [if_pos (by decide +kernel)]; kernel_rfl) | (rw [if_neg (by decide +kernel)]; exact ⟨rfl, rfl⟩))
    (fun os started H enc _ => lifted3 os started H enc)
theorem holds3 : Rows.MapperValidCardSaid :=
  Claim7.holds_tied_plain_at .later [] [.data, .data, .data] true (true, "263c410bb7dba791ba222f686c41a3a7a7ac1f979230d67aa7f6dd32e990f127") false
    row3 (fun _ h => by cases h) (by kernel_rfl) (fun _ h => by cases h) mapperValid_row_tie rfl ⟨rfl, rfl⟩ (by kernel_rfl) rfl
    (fun f fn hf hfn => by
      obtain rfl : f = 3 := Option.some.inj (hf.symm.trans (by kernel_rfl))
      obtain rfl : fn = Tryd.f3 := (Option.some.inj (Tryd.func3.symm.trans hfn)).symm
      exact ⟨by kernel_rfl, fun j t ht => by
        rw [Tryd.params3] at ht
        have hm : t ∈ [24, 25] := by simpa using Array.mem_of_getElem? ht
        have hall : ([24, 25].all fun u => !Tryd.prog.wantsStandIn u) = true := by kernel_rfl
        exact (show Tryd.prog.wantsStandIn t = false by simpa using List.all_eq_true.1 hall t hm)⟩)
    (by kernel_rfl)

end Go.Proofs.YtgmgnkmgofkfpaaDoor
