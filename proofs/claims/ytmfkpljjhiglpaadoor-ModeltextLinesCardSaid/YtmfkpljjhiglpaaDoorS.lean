/- The law ModeltextLines returns true for every input that it is handed (two texts and a number), and leaves it as it was: the given statement ModeltextLinesCardSaid. Conditions: what the row lists. -/
import Derived.Test.YtmfkpljjhiglpaaDoorW04
import Derived.Test.YtmfkpljjhiglpaaDoorTie
import Derived.Test.YtmfkpljjhiglpaaDoorCards
import Derived.ProofKit
import Derived.LaidMore
import Derived.Lay
import Derived.MakeChecks
import Derived.Stop.Joined
import Derived.SevenTiedAt
set_option linter.unusedSimpArgs false
set_option linter.unusedVariables false
namespace Go.Proofs.YtmfkpljjhiglpaaDoor
open Go Go.ChangeShapes Go.WideShapes Go.ChangeAt Go.RowKit Go.AV

theorem uT : ownKnob Tryd.prog.godebug = none := by kernel_rfl
theorem r0 : laidOutB Tryd.prog = true := by kernel_rfl
theorem nU {P : Program} {w : World} {r : Reach} {base : Nat} {t : TypeId} {v : Value} (ht : P.underlying t = some (.int .u16)) (h : Value.okWide P w r base t v) : ∃ n, (0 ≤ n ∧ n < 65536) ∧ v = .int .u16 n := by
  simp only [Value.okWide, ht, Cell.okWide] at h
  cases v <;> simp_all [Cell.ok, IntKind.has, IntKind.min, IntKind.max, IntKind.signed, IntKind.bits]
  omega


theorem rp (os : Os) (args : Array Value) : laidMetH Tryd.prog Rows.modeltextLinesRow.laid ((World.laidAll Tryd.prog os Rows.modeltextLinesRow.laid).forCall (fun _ _ => 0) ⟨#[], args, []⟩).memory := by
  rw [MakeChecks.laidMetH_plain _ _ _ (by kernel_rfl)]; exact laidMet_laidAll _ (by kernel_rfl) (by kernel_rfl)

set_option maxRecDepth 100000 in
theorem lifted5 (os : Os) (started : os.Started) (H : Type) (enc : TypeId × Value → H) :
    ReturnsInHanded {} Tryd.checked os 5 .any (fun w args => (Rows.modeltextLinesSpec.pre enc Tryd.prog Tryd.f5 Rows.modeltextLinesRow.domain false w args ∧ laidMetH Tryd.prog Rows.modeltextLinesRow.laid w) ∧ sizedMet enc Tryd.prog Tryd.f5 (OpenSpec.ofChange Rows.modeltextLinesSpec) false w args)
      (Rows.modeltextLinesSpec.post enc Tryd.prog Tryd.f5 false true false false) := by
  refine returnsInHanded_of_change_and (C := Tryd.checked) (X := fun w _ => laidMetH Tryd.prog Rows.modeltextLinesRow.laid w) (fun _ _ _ hh h => h.of_heap hh) uT started (by kernel_rfl) Tryd.func5
    (ChangeSpec.witness_shaped (enc := enc) (C := Tryd.checked) (os := os) (X := fun w _ => laidMetH Tryd.prog Rows.modeltextLinesRow.laid w) false (World.laidAll Tryd.prog os Rows.modeltextLinesRow.laid) #[.string ⟨#[]⟩, .string ⟨#[]⟩, .int .u16 0] 8 (World.laidAll_os _ _ _) (World.shaped_of_ZipB (by kernel_rfl) (by kernel_rfl)) (by kernel_rfl) (by kernel_rfl) (by kernel_rfl) (rp os _)) ?_
  intro W base args ds gs before hval0 hW hcnd hsz hL _
  have hval : ∀ (j : Nat) t v, Tryd.f5.params[j]? = some t → args[j]? = some v → Value.okWide Tryd.prog W .any base t v := hval0
  have hW' := hW
  obtain ⟨p, q, hA0, hV, rfl, hfz, hnd⟩ := hW
  have hA : DataW.TrodAll enc Tryd.prog W 0 (fun _ => true) true Tryd.f5.params.toList args.toList ds p := hA0
  rw [Tryd.params5] at hA hval
  obtain ⟨v0, v1, v2, d0, d1, d2, p0, p1, p2, hargs, rfl, rfl, h0, h1, h2⟩ := trodAll_three hA
  obtain ⟨rfl, rfl⟩ := trodVars_none hV
  have hargs' : args = #[v0, v1, v2] := hargs
  subst hargs'
  obtain ⟨E0, rfl⟩ := okWide_string Tryd.underlying9 (hval 0 9 v0 rfl rfl)
  obtain ⟨E1, rfl⟩ := okWide_string Tryd.underlying9 (hval 1 9 v1 rfl rfl)
  obtain ⟨D2, hu2, rfl⟩ := nU Tryd.underlying40 (hval 2 40 v2 rfl rfl)
  have hI : INV (Ctx.start Tryd.prog (fun _ => False) W 0) [] (fun _ => undef) W := lR fun b hb => hb.elim
  have hX : ∀ b, ¬ avd (Ctx.start Tryd.prog (fun _ => False) W 0) [] (fun _ => undef) b := by
    rintro b (hx | ⟨o, ob, e, _⟩)
    · exact hx
    · simp at e
  have hr0 : RV (Ctx.start Tryd.prog (fun _ => False) W 0) [] (fun _ => undef) W (.one (.str E0.data.toList)) (.string E0) := ⟨rfl, by simp [RC0]⟩
  have hr1 : RV (Ctx.start Tryd.prog (fun _ => False) W 0) [] (fun _ => undef) W (.one (.str E1.data.toList)) (.string E1) := ⟨rfl, by simp [RC0]⟩
  refine ((tP E0.data.toList E1.data.toList D2 hu2).2 _ _ _ W [_, _, _] rfl hI ⟨hr0, hr1, ⟨rfl, rfl⟩, trivial⟩).mono fun e W' ⟨v, he, hm, hv⟩ => ?_
  have hv' : v = .bool true := hv.2
  subst hv'
  exact ⟨_, he, qN hW' r0 hm rfl (by decide +kernel) rfl rfl (fun _ _ _ => trodAll_mk1 (shut_bool Tryd.underlying4 _))⟩

theorem row5 : Rows.ModeltextLinesSaid :=
  OpenClaim.holds_of_wide 5 Tryd.f5 rfl rfl rfl rfl rfl rfl rfl ⟨rfl, rfl, rfl, rfl, rfl⟩ rfl rfl rfl rfl rfl (by kernel_rfl) Tryd.func5 (by kernel_rfl)
    (of_decide_eq_true (by kernel_rfl)) (by unfold Func.isWrapper; first | (rw [if_pos (by decide +kernel)]; kernel_rfl) | (rw [if_neg (by decide +kernel)]; exact ⟨rfl, rfl⟩))
    (fun os started H enc _ => lifted5 os started H enc)
theorem holds5 : Rows.ModeltextLinesCardSaid :=
  Claim7.holds_tied_plain_at .later [] [.data, .data, .data, .data, .pinned] true (true, "9059d842b4b788820909ae2c46e376b15d5bdaf05496f69eb5b3fc4aa9e26e36") false
    row5 (fun _ h => by cases h) (by kernel_rfl) (fun _ h => by cases h) modeltextLines_row_tie rfl ⟨rfl, rfl⟩ (by kernel_rfl) rfl
    (fun f fn hf hfn => by
      obtain rfl : f = 5 := Option.some.inj (hf.symm.trans (by kernel_rfl))
      obtain rfl : fn = Tryd.f5 := (Option.some.inj (Tryd.func5.symm.trans hfn)).symm
      exact ⟨by kernel_rfl, fun j t ht => by
        rw [Tryd.params5] at ht
        have hm : t ∈ [9, 9, 40] := by simpa using Array.mem_of_getElem? ht
        have hall : ([9, 9, 40].all fun u => !Tryd.prog.wantsStandIn u) = true := by kernel_rfl
        exact (show Tryd.prog.wantsStandIn t = false by simpa using List.all_eq_true.1 hall t hm)⟩)
    (by kernel_rfl)

end Go.Proofs.YtmfkpljjhiglpaaDoor
