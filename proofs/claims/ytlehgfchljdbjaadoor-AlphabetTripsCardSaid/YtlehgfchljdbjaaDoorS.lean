/- The law AlphabetTrips returns true for every alphabet, two words and text that it is handed, and leaves it as it was: the given statement AlphabetTripsCardSaid. Conditions: what the row lists. -/
import Derived.Test.YtlehgfchljdbjaaDoorW03
import Derived.Test.YtlehgfchljdbjaaDoorTie
import Derived.Test.YtlehgfchljdbjaaDoorCards
import Derived.ProofKit
import Derived.LaidMore
import Derived.Stop.Joined
import Derived.SevenTiedAt
set_option linter.unusedSimpArgs false
set_option linter.unusedVariables false
namespace Go.Proofs.YtlehgfchljdbjaaDoor
open Go Go.ChangeShapes Go.WideShapes Go.ChangeAt Go.RowKit Go.AV

theorem own0 : ownKnob Tryd.prog.godebug = none := by kernel_rfl
theorem laidOut0 : laidOutB Tryd.prog = true := by kernel_rfl
@[reducible] def tyArg52 : Ty := .pair (.pair (.list .str) (.unit)) (.pair (.list (.int .i64)) (.pair (.list (.int .i64)) (.pair (.str) (.unit))))
theorem shArg52 : shOf Tryd.prog 8 52 = some tyArg52 := by kernel_rfl

theorem door_met (os : Os) (args : Array Value) : laidMetH Tryd.prog Rows.alphabetTripsRow.laid ((World.doorLaid Tryd.prog 400 os).forCall (fun _ _ => 0) ⟨#[], args, []⟩).memory :=
  laidMetH_of_parts3 (fuel := 8) (laidMet_of_run' 8 (by kernel_rfl) (by kernel_rfl)) (by kernel_rfl) (by kernel_rfl)

set_option maxRecDepth 100000 in
theorem lifted7 (os : Os) (started : os.Started) (H : Type) (enc : TypeId × Value → H) :
    ReturnsInHanded {} Tryd.checked os 7 .any (fun w args => (Rows.alphabetTripsSpec.pre enc Tryd.prog Tryd.f7 Rows.alphabetTripsRow.domain false w args ∧ laidMetH Tryd.prog Rows.alphabetTripsRow.laid w) ∧ sizedMet enc Tryd.prog Tryd.f7 (OpenSpec.ofChange Rows.alphabetTripsSpec) false w args)
      (Rows.alphabetTripsSpec.post enc Tryd.prog Tryd.f7 false true false false) := by
  refine returnsInHanded_of_change_and (C := Tryd.checked) (X := fun w _ => laidMetH Tryd.prog Rows.alphabetTripsRow.laid w) (fun _ _ _ hh h => h.of_heap hh) own0 started (by kernel_rfl) Tryd.func7
    (ChangeSpec.witness_shaped (enc := enc) (C := Tryd.checked) (os := os) (X := fun w _ => laidMetH Tryd.prog Rows.alphabetTripsRow.laid w) false (World.doorLaid Tryd.prog 400 os) #[.agg #[.slice none 0 0, .slice none 0 0, .slice none 0 0, .string ⟨#[]⟩]] 8 rfl (World.shaped_of_RefB (by kernel_rfl) (by kernel_rfl)) (by kernel_rfl) (by kernel_rfl) (by kernel_rfl) (door_met os _)) ?_
  intro W base args ds gs before hval0 hW hcnd hsz hL _
  have hval : ∀ (j : Nat) t v, Tryd.f7.params[j]? = some t → args[j]? = some v → Value.okWide Tryd.prog W .any base t v := hval0
  have hW' := hW
  obtain ⟨p, q, hA0, hV, rfl, hfz, hnd⟩ := hW
  have hA : DataW.TrodAll enc Tryd.prog W 0 (fun _ => true) true Tryd.f7.params.toList args.toList ds p := hA0
  rw [Tryd.params7] at hA hval
  obtain ⟨v0, d0, hargs, rfl, h0⟩ := trodAll_one hA
  obtain ⟨rfl, rfl⟩ := trodVars_none hV
  have hargs' : args = #[v0] := hargs
  subst hargs'
  obtain ⟨cs0, rfl, _⟩ := okWide_struct Tryd.underlying52 (hval 0 52 v0 rfl rfl)
  obtain ⟨fuel0, hf0⟩ := h0
  obtain ⟨D0, hD0⟩ := dat_of_trod shArg52 _ _ _ hf0
  have hI : INV (Ctx.start Tryd.prog (fun _ => False) W 0) [] (fun _ => undef) W := inv_start fun b hb => hb.elim
  have hX : ∀ b, ¬ avd (Ctx.start Tryd.prog (fun _ => False) W 0) [] (fun _ => undef) b := by
    rintro b (hx | ⟨o, ob, e, _⟩)
    · exact hx
    · simp at e
  have hr0 : RV (Ctx.start Tryd.prog (fun _ => False) W 0) [] (fun _ => undef) W (AV.agg [AC.list .str D0.1.1, AC.list (.int .i64) D0.2.1, AC.list (.int .i64) D0.2.2.1, AC.str D0.2.2.2.1]) (.agg cs0) := rv_struct hX hD0
  refine ((law03e D0.1.1 D0.2.1 D0.2.2.1 D0.2.2.2.1).2 _ _ _ W [_] rfl hI ⟨hr0, trivial⟩).mono fun e W' ⟨v, he, hm, hv⟩ => ?_
  have hv' : v = .bool true := hv.2
  subst hv'
  exact ⟨_, he, post_law hW' laidOut0 hm rfl (by decide +kernel) rfl rfl (fun _ _ _ => trodAll_mk1 (shut_bool Tryd.underlying4 _))⟩

theorem row7 : Rows.AlphabetTripsSaid :=
  OpenClaim.holds_of_wide 7 Tryd.f7 rfl rfl rfl rfl rfl rfl rfl ⟨rfl, rfl, rfl, rfl, rfl⟩ rfl rfl rfl rfl rfl (by kernel_rfl) Tryd.func7 (by kernel_rfl)
    (of_decide_eq_true (by kernel_rfl)) (by unfold Func.isWrapper; first | (rw [if_pos (by decide +kernel)]; kernel_rfl) | (rw [if_neg (by decide +kernel)]; exact ⟨rfl, rfl⟩))
    (fun os started H enc _ => lifted7 os started H enc)
theorem holds7 : Rows.AlphabetTripsCardSaid :=
  Claim7.holds_tied_plain_at .later [] [.data, .data, .data] true (true, "04adb5e4f22a9e6f0b6ff6d2db7c32845d163e1470df0ec8ab52cc502016d61a") false
    row7 (fun _ h => by cases h) (by kernel_rfl) (fun _ h => by cases h) alphabetTrips_row_tie rfl ⟨rfl, rfl⟩ (by kernel_rfl) rfl
    (fun f fn hf hfn => by
      obtain rfl : f = 7 := Option.some.inj (hf.symm.trans (by kernel_rfl))
      obtain rfl : fn = Tryd.f7 := (Option.some.inj (Tryd.func7.symm.trans hfn)).symm
      exact ⟨by kernel_rfl, fun j t ht => by
        rw [Tryd.params7] at ht
        have hm : t ∈ [52] := by simpa using Array.mem_of_getElem? ht
        have hall : ([52].all fun u => !Tryd.prog.wantsStandIn u) = true := by kernel_rfl
        exact (show Tryd.prog.wantsStandIn t = false by simpa using List.all_eq_true.1 hall t hm)⟩)
    (by kernel_rfl)

end Go.Proofs.YtlehgfchljdbjaaDoor
