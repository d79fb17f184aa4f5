/- The law ModeltextParses returns true for every input that it is handed (a text), and leaves it as it was: the given statement ModeltextParsesCardSaid. Conditions: what the row lists. -/
import Derived.Test.YtmfkpljjhiglpaaGreatDoorW05
import Derived.Test.YtmfkpljjhiglpaaGreatDoorTie
import Derived.Test.YtmfkpljjhiglpaaGreatDoorCards
import Derived.ProofKit
import Derived.LaidMore
import Derived.Lay
import Derived.MakeChecks
import Derived.Stop.Joined
import Derived.SevenTiedAt
set_option linter.unusedSimpArgs false
set_option linter.unusedVariables false
namespace Go.Proofs.YtmfkpljjhiglpaaGreatDoor
open Go Go.ChangeShapes Go.WideShapes Go.ChangeAt Go.RowKit Go.AV

theorem xx : ownKnob Tryz.prog.godebug = none := by kernel_rfl
theorem tF : laidOutB Tryz.prog = true := by kernel_rfl

theorem tz (os : Os) (args : Array Value) : laidMetH Tryz.prog Rows.modeltextParsesRow.laid ((World.laidAll Tryz.prog os Rows.modeltextParsesRow.laid).forCall (fun _ _ => 0) ⟨#[], args, []⟩).memory := by
  rw [MakeChecks.laidMetH_plain _ _ _ (by kernel_rfl)]; exact laidMet_laidAll _ (by kernel_rfl) (by kernel_rfl)

set_option maxRecDepth 100000 in
theorem lifted4 (os : Os) (started : os.Started) (H : Type) (enc : TypeId × Value → H) :
    ReturnsInHanded {} Tryz.checked os 4 .any (fun w args => (Rows.modeltextParsesSpec.pre enc Tryz.prog Tryz.f4 Rows.modeltextParsesRow.domain false w args ∧ laidMetH Tryz.prog Rows.modeltextParsesRow.laid w) ∧ sizedMet enc Tryz.prog Tryz.f4 (OpenSpec.ofChange Rows.modeltextParsesSpec) false w args)
      (Rows.modeltextParsesSpec.post enc Tryz.prog Tryz.f4 false true false false) := by
  refine returnsInHanded_of_change_and (C := Tryz.checked) (X := fun w _ => laidMetH Tryz.prog Rows.modeltextParsesRow.laid w) (fun _ _ _ hh h => h.of_heap hh) xx started (by kernel_rfl) Tryz.func4
    (ChangeSpec.witness_shaped (enc := enc) (C := Tryz.checked) (os := os) (X := fun w _ => laidMetH Tryz.prog Rows.modeltextParsesRow.laid w) false (World.laidAll Tryz.prog os Rows.modeltextParsesRow.laid) #[.string ⟨#[]⟩] 8 (World.laidAll_os _ _ _) (World.shaped_of_ZipB (by kernel_rfl) (by kernel_rfl)) (by kernel_rfl) (by kernel_rfl) (by kernel_rfl) (tz os _)) ?_
  intro W base args ds gs before hval0 hW hcnd hsz hL _
  have hval : ∀ (j : Nat) t v, Tryz.f4.params[j]? = some t → args[j]? = some v → Value.okWide Tryz.prog W .any base t v := hval0
  have hW' := hW
  obtain ⟨p, q, hA0, hV, rfl, hfz, hnd⟩ := hW
  have hA : DataW.TrodAll enc Tryz.prog W 0 (fun _ => true) true Tryz.f4.params.toList args.toList ds p := hA0
  rw [Tryz.params4] at hA hval
  obtain ⟨v0, d0, hargs, rfl, h0⟩ := trodAll_one hA
  obtain ⟨rfl, rfl⟩ := trodVars_none hV
  have hargs' : args = #[v0] := hargs
  subst hargs'
  obtain ⟨E0, rfl⟩ := okWide_string Tryz.underlying9 (hval 0 9 v0 rfl rfl)
  have hI : INV (Ctx.start Tryz.prog (fun _ => False) W 0) [] (fun _ => undef) W := nX fun b hb => hb.elim
  have hX : ∀ b, ¬ avd (Ctx.start Tryz.prog (fun _ => False) W 0) [] (fun _ => undef) b := by
    rintro b (hx | ⟨o, ob, e, _⟩)
    · exact hx
    · simp at e
  have hr0 : RV (Ctx.start Tryz.prog (fun _ => False) W 0) [] (fun _ => undef) W (.one (.str E0.data.toList)) (.string E0) := ⟨rfl, by simp [RC0]⟩
  refine ((wy E0.data.toList).2 _ _ _ W [_] rfl hI ⟨hr0, trivial⟩).mono fun e W' ⟨v, he, hm, hv⟩ => ?_
  have hv' : v = .bool true := hv.2
  subst hv'
  exact ⟨_, he, sU hW' tF hm rfl (by decide +kernel) rfl rfl (fun _ _ _ => trodAll_mk1 (shut_bool Tryz.underlying4 _))⟩

theorem row4 : Rows.ModeltextParsesSaid :=
  OpenClaim.holds_of_wide 4 Tryz.f4 rfl rfl rfl rfl rfl rfl rfl ⟨rfl, rfl, rfl, rfl, rfl⟩ rfl rfl rfl rfl rfl (by kernel_rfl) Tryz.func4 (by kernel_rfl)
    (of_decide_eq_true (by kernel_rfl)) (by unfold Func.isWrapper; first | (rw [if_pos (by decide +kernel)]; kernel_rfl) | (rw [if_neg (by decide +kernel)]; exact ⟨rfl, rfl⟩))
    (fun os started H enc _ => lifted4 os started H enc)
theorem holds4 : Rows.ModeltextParsesCardSaid :=
  Claim7.holds_tied_plain_at .later [] [.data, .data, .data, .data, .pinned] true (true, "b6cb1e6088208d010f711a3251ca06040b4fa6f80cd246ff2d3c0b33bf4939e2") false
    row4 (fun _ h => by cases h) (by kernel_rfl) (fun _ h => by cases h) modeltextParses_row_tie rfl ⟨rfl, rfl⟩ (by kernel_rfl) rfl
    (fun f fn hf hfn => by
      obtain rfl : f = 4 := Option.some.inj (hf.symm.trans (by kernel_rfl))
      obtain rfl : fn = Tryz.f4 := (Option.some.inj (Tryz.func4.symm.trans hfn)).symm
      exact ⟨by kernel_rfl, fun j t ht => by
        rw [Tryz.params4] at ht
        have hm : t ∈ [9] := by simpa using Array.mem_of_getElem? ht
        have hall : ([9].all fun u => !Tryz.prog.wantsStandIn u) = true := by kernel_rfl
        exact (show Tryz.prog.wantsStandIn t = false by simpa using List.all_eq_true.1 hall t hm)⟩)
    (by kernel_rfl)

end Go.Proofs.YtmfkpljjhiglpaaGreatDoor
