/- The law ModeltextReads returns true for every input that it is handed (a text), and leaves it as it was: the given statement ModeltextReadsCardSaid. Conditions: what the row lists. -/
import Derived.Test.YtmfkpljjhiglpaaDoorW04
import Derived.Test.YtmfkpljjhiglpaaDoorTie
import Derived.Test.YtmfkpljjhiglpaaDoorCards
import Derived.ProofKit
import Derived.LaidMore
import Derived.Lay
import Derived.MakeChecks
import Derived.Stop.Joined
import Derived.SevenTiedAt
set_option linter.unusedSimpArgs false
set_option linter.unusedVariables false
namespace Go.Proofs.YtmfkpljjhiglpaaDoor
open Go Go.ChangeShapes Go.WideShapes Go.ChangeAt Go.RowKit Go.AV

theorem uK : ownKnob Tryd.prog.godebug = none := by kernel_rfl
theorem qD : laidOutB Tryd.prog = true := by kernel_rfl
theorem se {W : World} (h : laidMetH Tryd.prog Rows.modeltextReadsRow.laid W) : ∃ x, W.heap[1]? = some x ∧ POW Tryd.prog 1 x := by
  rw [MakeChecks.laidMetH_plain _ _ _ (by kernel_rfl)] at h
  obtain ⟨ps, hl, _⟩ := h
  have hl : DataW.LaidVars Tryd.prog W [("math/bits.deBruijn32tab", Rows.laid_math_bits_deBruijn32tab), ("math/bits.deBruijn64tab", Rows.laid_math_bits_deBruijn64tab), ("internal/strconv.uint64pow10", Rows.laid_internal_strconv_uint64pow10), ("unicode/utf8.acceptRanges", Rows.laid_unicode_utf8_acceptRanges), ("unicode/utf8.first", Rows.laid_unicode_utf8_first)] ps := hl
  obtain ⟨_, _, _, _, _, q1, _, _, _, _, h2, _⟩ := hl
  obtain ⟨_, _, _, _, _, q2, _, _, _, _, h3, _⟩ := h2
  obtain ⟨g, t, cs, fuel, p, q, hg, ht, hv, hd, _, _⟩ := h3
  have hg1 : Tryd.prog.globalNamed "internal/strconv.uint64pow10" = some 1 := by kernel_rfl
  obtain rfl := Option.some.inj (hg1.symm.trans hg)
  have ht1 : (Tryd.prog.globals[1]?).map (·.type) = some 131 := by kernel_rfl
  obtain rfl := Option.some.inj (ht1.symm.trans ht)
  have e : (Rows.laid_internal_strconv_uint64pow10 : DataW Unit) = Lib.tabData .u64 Lib.pow10Tab := by kernel_rfl
  rw [e] at hd
  have hc := Lib.cells_of_tab (P := Tryd.prog) (show Tryd.prog.underlying 131 = some (.array 20 109) by kernel_rfl) (show Tryd.prog.underlying 109 = some (.int .u64) by kernel_rfl) (by kernel_rfl) (by kernel_rfl) hd
  unfold World.var? at hv
  rw [hg1, Option.bind_some] at hv
  split at hv
  · rename_i cs' t' z' hh
    obtain rfl := Option.some.inj hv
    refine ⟨_, hh, hg1, t', z', ?_⟩
    rw [← hc]
  · cases hv


theorem qG (os : Os) (args : Array Value) : laidMetH Tryd.prog Rows.modeltextReadsRow.laid ((World.laidAll Tryd.prog os Rows.modeltextReadsRow.laid).forCall (fun _ _ => 0) ⟨#[], args, []⟩).memory := by
  rw [MakeChecks.laidMetH_plain _ _ _ (by kernel_rfl)]; exact laidMet_laidAll _ (by kernel_rfl) (by kernel_rfl)

set_option maxRecDepth 100000 in
theorem lifted4 (os : Os) (started : os.Started) (H : Type) (enc : TypeId × Value → H) :
    ReturnsInHanded {} Tryd.checked os 4 .any (fun w args => (Rows.modeltextReadsSpec.pre enc Tryd.prog Tryd.f4 Rows.modeltextReadsRow.domain false w args ∧ laidMetH Tryd.prog Rows.modeltextReadsRow.laid w) ∧ sizedMet enc Tryd.prog Tryd.f4 (OpenSpec.ofChange Rows.modeltextReadsSpec) false w args)
      (Rows.modeltextReadsSpec.post enc Tryd.prog Tryd.f4 false true false false) := by
  refine returnsInHanded_of_change_and (C := Tryd.checked) (X := fun w _ => laidMetH Tryd.prog Rows.modeltextReadsRow.laid w) (fun _ _ _ hh h => h.of_heap hh) uK started (by kernel_rfl) Tryd.func4
    (ChangeSpec.witness_shaped (enc := enc) (C := Tryd.checked) (os := os) (X := fun w _ => laidMetH Tryd.prog Rows.modeltextReadsRow.laid w) false (World.laidAll Tryd.prog os Rows.modeltextReadsRow.laid) #[.string ⟨#[]⟩] 8 (World.laidAll_os _ _ _) (World.shaped_of_ZipB (by kernel_rfl) (by kernel_rfl)) (by kernel_rfl) (by kernel_rfl) (by kernel_rfl) (qG os _)) ?_
  intro W base args ds gs before hval0 hW hcnd hsz hL _
  have hval : ∀ (j : Nat) t v, Tryd.f4.params[j]? = some t → args[j]? = some v → Value.okWide Tryd.prog W .any base t v := hval0
  have hW' := hW
  obtain ⟨p, q, hA0, hV, rfl, hfz, hnd⟩ := hW
  have hA : DataW.TrodAll enc Tryd.prog W 0 (fun _ => true) true Tryd.f4.params.toList args.toList ds p := hA0
  rw [Tryd.params4] at hA hval
  obtain ⟨v0, d0, hargs, rfl, h0⟩ := trodAll_one hA
  obtain ⟨rfl, rfl⟩ := trodVars_none hV
  have hargs' : args = #[v0] := hargs
  subst hargs'
  obtain ⟨E0, rfl⟩ := okWide_string Tryd.underlying9 (hval 0 9 v0 rfl rfl)
  have hI : INV (Ctx.start Tryd.prog (fun _ => False) W 0) [] (fun _ => undef) W := ky fun b hb => hb.elim
  have hX : ∀ b, ¬ avd (Ctx.start Tryd.prog (fun _ => False) W 0) [] (fun _ => undef) b := by
    rintro b (hx | ⟨o, ob, e, _⟩)
    · exact hx
    · simp at e
  have hr0 : RV (Ctx.start Tryd.prog (fun _ => False) W 0) [] (fun _ => undef) W (.one (.str E0.data.toList)) (.string E0) := ⟨rfl, by simp [RC0]⟩
  obtain ⟨x9, hx9, hpw9⟩ := se hL
  refine (rm (vs := [_]) (tI hpw9 E0.data.toList) hx9 (fun C L σ => ⟨⟨rfl, by simp [RC0]⟩, trivial⟩)).mono fun e W' ⟨v, he, hm, hv⟩ => ?_
  have hv' : v = .bool true := hv.2
  subst hv'
  exact ⟨_, he, r9 hW' qD hm rfl (by decide +kernel) rfl rfl (fun _ _ _ => trodAll_mk1 (shut_bool Tryd.underlying4 _))⟩

theorem row4 : Rows.ModeltextReadsSaid :=
  OpenClaim.holds_of_wide 4 Tryd.f4 rfl rfl rfl rfl rfl rfl rfl ⟨rfl, rfl, rfl, rfl, rfl⟩ rfl rfl rfl rfl rfl (by kernel_rfl) Tryd.func4 (by kernel_rfl)
    (of_decide_eq_true (by kernel_rfl)) (by unfold Func.isWrapper; first | (rw [if_pos (by decide +kernel)]; kernel_rfl) | (rw [if_neg (by decide +kernel)]; exact ⟨rfl, rfl⟩))
    (fun os started H enc _ => lifted4 os started H enc)
theorem holds4 : Rows.ModeltextReadsCardSaid :=
  Claim7.holds_tied_plain_at .later [] [.data, .data, .data, .data, .pinned] true (true, "9059d842b4b788820909ae2c46e376b15d5bdaf05496f69eb5b3fc4aa9e26e36") false
    row4 (fun _ h => by cases h) (by kernel_rfl) (fun _ h => by cases h) modeltextReads_row_tie rfl ⟨rfl, rfl⟩ (by kernel_rfl) rfl
    (fun f fn hf hfn => by
      obtain rfl : f = 4 := Option.some.inj (hf.symm.trans (by kernel_rfl))
      obtain rfl : fn = Tryd.f4 := (Option.some.inj (Tryd.func4.symm.trans hfn)).symm
      exact ⟨by kernel_rfl, fun j t ht => by
        rw [Tryd.params4] at ht
        have hm : t ∈ [9] := by simpa using Array.mem_of_getElem? ht
        have hall : ([9].all fun u => !Tryd.prog.wantsStandIn u) = true := by kernel_rfl
        exact (show Tryd.prog.wantsStandIn t = false by simpa using List.all_eq_true.1 hall t hm)⟩)
    (by kernel_rfl)

end Go.Proofs.YtmfkpljjhiglpaaDoor
