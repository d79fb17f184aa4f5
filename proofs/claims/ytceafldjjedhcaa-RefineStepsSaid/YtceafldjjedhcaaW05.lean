/- Contracts of functions of this seat, each out of a walk through its code, and plain facts on what they compute. Conditions: those that each theorem names. -/
import Derived.Test.YtceafldjjedhcaaW04
set_option linter.unusedSimpArgs false
set_option linter.unusedVariables false
namespace Go.AV
open Nat (reduceEqDiff reduceAdd reduceLeDiff reduceLT reduceMul reduceSub)
open List (set_cons_zero set_cons_succ)
/-plain-/
/-! ### repeating Step: every step divides a class, and the end is the list of Run -/
def isN (T : Nat → Nat → Bool) (c : Nat) : Bool := (List.range c).all fun d => !T d c
theorem isN_yes {T : Nat → Nat → Bool} {c : Nat} : isN T c = true ↔ ∀ d, d < c → T d c = false := by
  unfold isN; simp [List.all_eq_true]
theorem isN_no {T : Nat → Nat → Bool} {c d : Nat} (h : d < c) (ht : T d c = true) : isN T c = false := by
  cases hc : isN T c with
  | false => rfl
  | true => rw [isN_yes.1 hc d h] at ht; cases ht
theorem nm_count {T : Nat → Nat → Bool} {n : Nat} (hT : EQT T n) : ∀ c, c ≤ n → (nmS T c).2.length = (List.range c).countP (isN T)
  | 0, _ => rfl
  | c + 1, h => by
    have ih := nm_count hT c (by omega)
    rw [List.range_succ, List.countP_append, ← ih]
    cases hc : isN T c with
    | true =>
      have := nm_new (T := T) (c := c) (isN_yes.1 hc)
      rw [nmS_new (by omega)]
      simp [hc]
    | false =>
      have : ∃ d, d < c ∧ T d c = true := by
        refine Decidable.byContradiction fun hh => ?_
        have : isN T c = true := isN_yes.2 fun d hd => by
          cases ht : T d c with
          | false => rfl
          | true => exact absurd ⟨d, hd, ht⟩ hh
        rw [hc] at this; cases this
      obtain ⟨d, hd, ht⟩ := this
      have h1 := nm_old hT (by omega) hd ht
      have h2 := ((nmp hT c (by omega)).at_ d hd).1
      rw [nmS_old (by omega)]
      simp [hc]
theorem cP_le {p q : Nat → Bool} : ∀ n, (∀ x, x < n → p x = true → q x = true) → (List.range n).countP p ≤ (List.range n).countP q
  | 0, _ => Nat.le_refl _
  | n + 1, h => by
    have ih := cP_le (p := p) (q := q) n fun x hx => h x (by omega)
    rw [List.range_succ, List.countP_append, List.countP_append]
    have : [n].countP p ≤ [n].countP q := by
      cases hp : p n with
      | false => simp [hp]
      | true => simp [hp, h n (by omega) hp]
    omega
theorem cP_lt {p q : Nat → Bool} {c : Nat} (h1 : q c = true) (h2 : p c = false) : ∀ n, (∀ x, x < n → p x = true → q x = true) → c < n → (List.range n).countP p < (List.range n).countP q
  | n + 1, h, hc => by
    rw [List.range_succ, List.countP_append, List.countP_append]
    by_cases e : c = n
    · have ih := cP_le (p := p) (q := q) n fun x hx => h x (by omega)
      subst e
      have a1 : [c].countP p = 0 := by simp [h2]
      have a2 : [c].countP q = 1 := by simp [h1]
      omega
    · have ih := cP_lt h1 h2 n (fun x hx => h x (by omega)) (by omega)
      have : [n].countP p ≤ [n].countP q := by
        cases hp : p n with
        | false => simp [hp]
        | true => simp [hp, h n (by omega) hp]
      omega
theorem lst_isN {T : Nat → Nat → Bool} {n c : Nat} (hT : EQT T n) (hc : c < n) : isN T (lst T c) = true := by
  obtain ⟨c1, c2, c3⟩ := lst_spec hT hc
  refine isN_yes.2 fun d hd => ?_
  cases ht : T d (lst T c) with
  | false => rfl
  | true =>
    have := hT.tr c _ d hc (by omega) (by omega) c2 (hT.sy d _ (by omega) (by omega) ht)
    rw [c3 d hd] at this; cases this
theorem nm_more {T U : Nat → Nat → Bool} {n a b : Nat} (hT : EQT T n) (hU : EQT U n) (hf : ∀ d c, d < n → c < n → U d c = true → T d c = true) (ha : a < n) (hb : b < n) (ht : T a b = true) (hu : U a b = false) : (nmS T n).2.length < (nmS U n).2.length := by
  rw [nm_count hT n (Nat.le_refl _), nm_count hU n (Nat.le_refl _)]
  have mono : ∀ x, x < n → isN T x = true → isN U x = true := fun x hx h => isN_yes.2 fun d hd => by
    cases hc : U d x with
    | false => rfl
    | true => have := hf d x (by omega) hx hc; rw [isN_yes.1 h d hd] at this; cases this
  obtain ⟨a1, a2, a3⟩ := lst_spec hU ha
  obtain ⟨b1, b2, b3⟩ := lst_spec hU hb
  have hne : lst U a ≠ lst U b := fun e => by
    have := (lst_iff hU hb ha).1 e; rw [hu] at this; cases this
  have ta := hf a _ ha (by omega) a2
  have tb := hf b _ hb (by omega) b2
  have tab : T (lst U a) (lst U b) = true := hT.tr _ a _ (by omega) ha (by omega) (hT.sy a _ ha (by omega) ta) (hT.tr a b _ ha hb (by omega) ht tb)
  rcases Nat.lt_or_gt_of_ne hne with hh | hh
  · exact cP_lt (c := lst U b) (lst_isN hU hb) (isN_no hh tab) n mono (by omega)
  · exact cP_lt (c := lst U a) (lst_isN hU ha) (isN_no hh (hT.sy _ _ (by omega) (by omega) tab)) n mono (by omega)
theorem cN_onto {cl : List Int} (hb : ∀ q, q < cl.length → cBad cl q = false) : ∀ k, k ≤ cl.length → ∀ v, 0 ≤ v → v < cN cl k → ∃ q, q < k ∧ cl.getD q 0 = v
  | 0, _, v, h0, h1 => by simp only [cN] at h1; omega
  | k + 1, hk, v, h0, h1 => by
    have h2 := hb k (by omega)
    simp only [cBad, Bool.or_eq_false_iff, decide_eq_false_iff_not] at h2
    simp only [cN] at h1
    by_cases e : v < cN cl k
    · obtain ⟨q, q1, q2⟩ := cN_onto hb k (by omega) v h0 e
      exact ⟨q, by omega, q2⟩
    · exact ⟨k, by omega, by omega⟩
theorem cN_up (cl : List Int) : ∀ k q, q < k → cl.getD q 0 < cN cl k
  | 0, q, h => by omega
  | k + 1, q, h => by
    simp only [cN]
    by_cases e : q = k
    · rw [e]; omega
    · have := cN_up cl k q (by omega); omega
theorem canon {cl : List Int} (hb : ∀ q, q < cl.length → cBad cl q = false) : ∀ k, k ≤ cl.length → (nmS (eqL cl) k).1 = cl.take k ∧ ((nmS (eqL cl) k).2.length : Int) = cN cl k
  | 0, _ => ⟨by simp [nmS], rfl⟩
  | k + 1, hk => by
    obtain ⟨i1, i2⟩ := canon hb k (by omega)
    have h2 := hb k (by omega)
    simp only [cBad, Bool.or_eq_false_iff, decide_eq_false_iff_not] at h2
    have ht : cl.take (k + 1) = cl.take k ++ [cl.getD k 0] := take_succ_D (by omega)
    by_cases e : cl.getD k 0 = cN cl k
    · have hn := nm_new (T := eqL cl) (c := k) fun q hq => by
        have := cN_up cl k q hq
        simp only [eqL, decide_eq_false_iff_not]; omega
      rw [nmS_new (by omega), ht, i1]
      refine ⟨by rw [i2, e], ?_⟩
      simp only [List.length_append, List.length_cons, List.length_nil, cN]; omega
    · obtain ⟨q, q1, q2⟩ := cN_onto hb k (by omega) (cl.getD k 0) (by omega) (by omega)
      have ho := nm_old (eqL_eqt cl cl.length) (c := k) (q := q) (by omega) q1 (by simp only [eqL, decide_eq_true_eq]; exact q2)
      have hq : (nmS (eqL cl) k).1.getD q 0 = cl.getD k 0 := by
        rw [i1, ← q2]; simp [List.getD, q1]
      rw [hq] at ho
      rw [nmS_old (by omega), ht, i1, ho]
      refine ⟨rfl, ?_⟩
      rw [i2]; simp only [cN]; omega
theorem cN_nn (cl : List Int) : ∀ k, 0 ≤ cN cl k
  | 0 => Int.le_refl _
  | k + 1 => by have := cN_nn cl k; simp only [cN]; omega
structure STD (m : Mly) (C : List Int) (j : Nat) : Prop where
  len : C.length = m.inp.toNat
  ce : cntE C = 0
  co : ∀ c d : Nat, c < m.inp.toNat → d < m.inp.toNat → togB m c d = true → C.getD c 0 = C.getD d 0
  ct : (j : Int) + 1 ≤ cntK C
theorem std_cok {m : Mly} (hm : MOK m) {C : List Int} {j : Nat} (h : STD m C j) : COK m C := ⟨hm, h.ce, by have := hm.i1; have := h.len; omega⟩
theorem std_zero {m : Mly} (hm : MOK m) : STD m (List.replicate m.inp.toNat 0) 0 := by
  have hi1 := hm.i1; have hi2 := hm.i2
  have hl : (List.replicate m.inp.toNat (0 : Int)).length = m.inp.toNat := List.length_replicate
  have hc : cntE (List.replicate m.inp.toNat (0 : Int)) = 0 := cntE_ok (by omega) fun k _ => cBad_no (by rw [rep_at]; omega) (by rw [rep_at]; exact cN_nn _ _)
  refine ⟨hl, hc, fun c d _ _ _ => by rw [rep_at, rep_at], ?_⟩
  unfold cntK
  rw [if_pos hc, hl]
  have := cN_up (List.replicate m.inp.toNat (0 : Int)) m.inp.toNat 0 (by omega)
  rw [rep_at] at this
  omega
theorem std_cnt {m : Mly} (hm : MOK m) {C : List Int} {j : Nat} (h : STD m C j) : cntK C = ((nmS (eqL C) C.length).2.length : Int) ∧ (nmS (eqL C) C.length).1 = C ∧ cntK C ≤ m.inp := by
  have hi1 := hm.i1
  obtain ⟨h1, h2⟩ := cntE_zero h.ce
  obtain ⟨c1, c2⟩ := canon h2 C.length (Nat.le_refl _)
  have hl := h.len
  have hcl := cN_le h2 C.length (Nat.le_refl _)
  unfold cntK
  rw [if_pos h.ce]
  exact ⟨c2.symm, by rw [c1, List.take_length], by omega⟩
theorem spl_eqt (m : Mly) (C : List Int) (p : Nat × Nat × Nat) (n : Nat) : EQT (spl m C p) n where
  rf a _ := by simp [spl, agrS]
  sy a b _ _ h := by
    simp only [spl, agrS, Bool.and_eq_true, Bool.or_eq_true, Bool.not_eq_true', decide_eq_true_eq, decide_eq_false_iff_not] at h ⊢
    obtain ⟨h1, h2⟩ := h
    refine ⟨h1.symm, ?_⟩
    rcases h2 with h2 | h2
    · exact .inl (h1 ▸ h2)
    · exact .inr ⟨h2.1.symm, h2.2.symm⟩
  tr a b c _ _ _ h g := by
    simp only [spl, agrS, Bool.and_eq_true, Bool.or_eq_true, Bool.not_eq_true', decide_eq_true_eq, decide_eq_false_iff_not] at h g ⊢
    obtain ⟨h1, h2⟩ := h
    obtain ⟨g1, g2⟩ := g
    refine ⟨h1.trans g1, ?_⟩
    rcases h2 with h2 | h2
    · exact .inl h2
    · rcases g2 with g2 | g2
      · exact .inl (by rw [h1]; exact g2)
      · exact .inr ⟨h2.1.trans g2.1, h2.2.trans g2.2⟩
theorem std_step {m : Mly} (hm : MOK m) {C : List Int} {j : Nat} (h : STD m C j) (hb : stpB m C = true) : STD m (stpL m C) (j + 1) ∧ cntK C < cntK (stpL m C) := by
  have hk := std_cok hm h
  have hi1 := hm.i1; have hi2 := hm.i2
  have hch : chkE m C = 0 := by
    unfold chkE
    rw [if_neg (by simp [validE_of hm]), if_neg (by simp [hk.ce]), if_pos hk.len]
  unfold stpB at hb
  rw [if_pos hch] at hb
  obtain ⟨p, hp⟩ := Option.isSome_iff_exists.1 hb
  have e : stpL m C = (nmS (spl m C p) m.inp.toNat).1 := by unfold stpL; rw [if_pos hch, hp]
  rw [e]
  obtain ⟨⟨p1, p2, p3⟩, p4, p5⟩ := finI_spec hp
  unfold parS at p5
  simp only [Bool.and_eq_true, Bool.not_eq_true', decide_eq_true_eq] at p5
  have hl := h.len
  have hr := nmS_rng (spl m C p) m.inp.toNat
  have hc := nm_cnt (spl m C p) (n := m.inp.toNat) (by omega) (by omega)
  obtain ⟨s1, s2, s3⟩ := std_cnt hm h
  have hmore : (nmS (eqL C) m.inp.toNat).2.length < (nmS (spl m C p) m.inp.toNat).2.length := by
    refine nm_more (a := p.2.1) (b := p.2.2) (eqL_eqt C _) (spl_eqt m C p _) (fun d c _ _ hu => ?_) (by omega) (by omega) (by simp only [eqL, decide_eq_true_eq]; exact p5.1) ?_
    · simp only [spl, Bool.and_eq_true, decide_eq_true_eq] at hu
      simp only [eqL, decide_eq_true_eq]; exact hu.1
    · unfold spl
      rw [p5.2, show decide (C.getD p.2.1 0 = C.getD p.2.1 0) = true from decide_eq_true rfl]; simp
  rw [hl] at s1
  have hlt : cntK C < cntK (nmS (spl m C p) m.inp.toNat).1 := by rw [hc.2]; omega
  refine ⟨⟨hr.1, hc.1, fun c d h1 h2 ht => ?_, by have := h.ct; omega⟩, hlt⟩
  rw [nm_iff (spl_eqt m C p _) h1 h2]
  have hq := togB_iff.1 ht p.1 (by rw [fstX_len]; exact p1)
  rw [fstX_at p1] at hq
  simp only [spl, Bool.and_eq_true, Bool.or_eq_true, decide_eq_true_eq]
  exact ⟨h.co c d h1 h2 ht, .inr hq⟩
theorem finI_none {m : Mly} {cl : List Int} (h : finI m cl = none) {i c d : Nat} (hi : i < m.exR.length) (hcd : c < d) (hd : d < cl.length) : parS m cl (m.exR.getD i eX0).1 c d = false := by
  unfold finI at h
  have h1 := List.findSome?_eq_none_iff.1 h i (by simpa using hi)
  have h2 : finC m cl (m.exR.getD i eX0).1 = none := by simpa using h1
  unfold finC at h2
  have h3 := List.findSome?_eq_none_iff.1 h2 c (by simp; omega)
  have h4 : finD m cl (m.exR.getD i eX0).1 c = none := by simpa using h3
  unfold finD at h4
  have h5 := List.find?_eq_none.1 h4 d (by simpa using hd)
  simpa [hcd] using h5
theorem std_end {m : Mly} (hm : MOK m) {C : List Int} {j : Nat} (h : STD m C j) (hb : stpB m C = false) : C = runLm m ∧ cntK C = runNm m ∧ stpL m C = C := by
  have hk := std_cok hm h
  have hi1 := hm.i1
  have hl := h.len
  have hch : chkE m C = 0 := by
    unfold chkE
    rw [if_neg (by simp [validE_of hm]), if_neg (by simp [hk.ce]), if_pos hk.len]
  unfold stpB at hb
  rw [if_pos hch] at hb
  have hn : finI m C = none := by cases hf : finI m C with
    | none => rfl
    | some p => rw [hf] at hb; cases hb
  have lt : ∀ c d : Nat, c < d → d < m.inp.toNat → C.getD c 0 = C.getD d 0 → togB m c d = true := fun c d h1 h2 e => togB_iff.2 fun k hk2 => by
    rw [fstX_len] at hk2
    have := finI_none hn (i := k) hk2 h1 (by omega)
    unfold parS at this
    rw [decide_eq_true e] at this
    rw [fstX_at hk2]
    simpa using this
  have hcon : nmS (eqL C) m.inp.toNat = nmS (togB m) m.inp.toNat := nmS_congr _ fun d q h1 h2 => by
    unfold eqL
    cases ht : togB m d q with
    | true => exact decide_eq_true (h.co d q (by omega) h2 ht)
    | false => exact decide_eq_false fun e => by rw [lt d q h1 h2 e] at ht; cases ht
  obtain ⟨s1, s2, s3⟩ := std_cnt hm h
  rw [hl] at s1 s2
  have hv := validE_of hm
  refine ⟨by unfold runLm; rw [if_pos hv, ← hcon]; exact s2.symm, by unfold runNm; rw [if_pos hv, ← hcon]; exact s1, ?_⟩
  unfold stpL
  rw [if_pos hch, hn]
theorem chk_of {m : Mly} {C : List Int} (hk : COK m C) : chkE m C = 0 := by
  unfold chkE
  rw [if_neg (by simp [validE_of hk.ok]), if_neg (by simp [hk.ce]), if_pos hk.len]
end Go.AV
namespace Go.AV
open Nat (reduceEqDiff reduceAdd reduceLeDiff reduceLT reduceMul reduceSub)
open List (set_cons_zero set_cons_succ)
/-plain-/
/-! ### the document's Step -/
def oV (m : Mly) (cl : List Int) (p : Nat × Nat × Nat) (q : Nat) : Int := if cl.getD q 0 = cl.getD p.2.1 0 then m.inp + (lst (spl m cl p) q : Int) else cl.getD q 0
def oL (m : Mly) (cl : List Int) (p : Nat × Nat × Nat) (c : Nat) : List Int := (List.range cl.length).map fun q => if q < c then oV m cl p q else cl.getD q 0
theorem oL_len (m : Mly) (cl : List Int) (p : Nat × Nat × Nat) (c : Nat) : (oL m cl p c).length = cl.length := by simp [oL]
theorem oL_at {m : Mly} {cl : List Int} {p : Nat × Nat × Nat} {c q : Nat} (h : q < cl.length) : (oL m cl p c).getD q 0 = if q < c then oV m cl p q else cl.getD q 0 := by simp [oL, List.getD, h]
theorem ext_D {xs ys : List Int} (h : xs.length = ys.length) (h2 : ∀ i, i < xs.length → xs.getD i 0 = ys.getD i 0) : xs = ys := by
  refine List.ext_getElem h fun i h1 h3 => ?_
  have := h2 i h1
  simpa [List.getD, h1, h3] using this
theorem oL_zero (m : Mly) (cl : List Int) (p : Nat × Nat × Nat) : oL m cl p 0 = cl := ext_D (oL_len ..) fun i hi => by
  rw [oL_len] at hi
  rw [oL_at hi, if_neg (by omega)]
theorem getD_set {xs : List Int} {i j : Nat} {x : Int} (h : j < xs.length) : (xs.set i x).getD j 0 = if i = j then x else xs.getD j 0 := by
  by_cases e : i = j
  · subst e; simp [List.getD, h]
  · simp [List.getD, e]
theorem oL_set {m : Mly} {cl : List Int} {p : Nat × Nat × Nat} {c : Nat} (hc : c < cl.length) : (oL m cl p c).set c (oV m cl p c) = oL m cl p (c + 1) := ext_D (by rw [List.length_set, oL_len, oL_len]) fun i hi => by
  rw [List.length_set, oL_len] at hi
  rw [getD_set (by rw [oL_len]; exact hi), oL_at hi, oL_at hi]
  by_cases e : c = i
  · subst e; rw [if_pos rfl, if_pos (by omega)]
  · rw [if_neg e]
    by_cases e2 : i < c
    · rw [if_pos e2, if_pos (by omega)]
    · rw [if_neg e2, if_neg (by omega)]
theorem oL_skip {m : Mly} {cl : List Int} {p : Nat × Nat × Nat} {c : Nat} (h : ¬ cl.getD c 0 = cl.getD p.2.1 0) : oL m cl p (c + 1) = oL m cl p c := ext_D (by rw [oL_len, oL_len]) fun i hi => by
  rw [oL_len] at hi
  rw [oL_at hi, oL_at hi]
  by_cases e : i = c
  · subst e; rw [if_pos (by omega), if_neg (by omega)]; unfold oV; rw [if_neg h]
  · by_cases e2 : i < c
    · rw [if_pos e2, if_pos (by omega)]
    · rw [if_neg e2, if_neg (by omega)]
def LKQ (T : Nat → Nat → Bool) (c e : Nat) (k : Int) : Prop := (k = (c : Int) ∧ ∀ q, e ≤ q → q < c → T c q = false) ∨ ∃ q : Nat, e ≤ q ∧ q < c ∧ T c q = true ∧ k = (lst T q : Int) ∧ ∀ r, e ≤ r → r < q → T c r = false
theorem lkq_top (T : Nat → Nat → Bool) (c : Nat) : LKQ T c c c := .inl ⟨rfl, fun q h1 h2 => by omega⟩
theorem lkq_hit {T : Nat → Nat → Bool} {c e : Nat} (hc : e < c) (h : T c e = true) : LKQ T c e (lst T e : Int) := .inr ⟨e, Nat.le_refl _, hc, h, rfl, fun r h1 h2 => by omega⟩
theorem lkq_miss {T : Nat → Nat → Bool} {c e : Nat} {k : Int} (h0 : LKQ T c (e + 1) k) (h : T c e = false) : LKQ T c e k := by
  rcases h0 with ⟨h1, h2⟩ | ⟨q, h1, h2, h3, h4, h5⟩
  · refine .inl ⟨h1, fun q q1 q2 => ?_⟩
    by_cases e1 : q = e
    · rw [e1]; exact h
    · exact h2 q (by omega) q2
  · refine .inr ⟨q, by omega, h2, h3, h4, fun r r1 r2 => ?_⟩
    by_cases e1 : r = e
    · rw [e1]; exact h
    · exact h5 r (by omega) r2
theorem lkq_end {T : Nat → Nat → Bool} {n c : Nat} {k : Int} (hT : EQT T n) (hc : c < n) (h : LKQ T c 0 k) : k = (lst T c : Int) := by
  rcases h with ⟨h1, h2⟩ | ⟨q, h1, h2, h3, h4, h5⟩
  · unfold lst
    rw [find_none fun y hy => h2 y (by omega) hy]; exact h1
  · rw [h4, (lst_iff hT hc (by omega)).2 (hT.sy c q hc (by omega) h3)]
theorem o_num {m : Mly} {cl : List Int} {p : Nat × Nat × Nat} (hk : COK m cl) (hp : p.2.1 < cl.length) : nmS (eqL (oL m cl p cl.length)) m.inp.toNat = nmS (spl m cl p) m.inp.toNat := by
  have hlen := hk.len
  obtain ⟨⟨l1, l2⟩, hb⟩ := cntE_zero hk.ce
  have hT := spl_eqt m cl p m.inp.toNat
  have rng : ∀ q, q < cl.length → cl.getD q 0 < m.inp := fun q hq => by
    have h1 := hb q hq
    simp only [cBad, Bool.or_eq_false_iff, decide_eq_false_iff_not] at h1
    have h2 := cN_le hb q (by omega)
    omega
  refine nmS_congr _ fun d q h1 h2 => ?_
  unfold eqL
  rw [oL_at (by omega), oL_at (by omega), if_pos (by omega), if_pos (by omega)]
  have r1 := rng d (by omega); have r2 := rng q (by omega)
  unfold oV
  by_cases a : cl.getD d 0 = cl.getD p.2.1 0
  · by_cases b : cl.getD q 0 = cl.getD p.2.1 0
    · rw [if_pos a, if_pos b]
      have hi := lst_iff hT (c := q) (d := d) h2 (by omega)
      cases hs : spl m cl p d q with
      | true => rw [hi.2 hs]; exact decide_eq_true rfl
      | false => exact decide_eq_false fun e => by rw [hi.1 (by omega)] at hs; cases hs
    · rw [if_pos a, if_neg b, decide_eq_false (by omega)]
      unfold spl
      rw [decide_eq_false (show ¬ cl.getD d 0 = cl.getD q 0 from fun e => b (by rw [← e]; exact a))]; rfl
  · by_cases b : cl.getD q 0 = cl.getD p.2.1 0
    · rw [if_neg a, if_pos b, decide_eq_false (by omega)]
      unfold spl
      rw [decide_eq_false (show ¬ cl.getD d 0 = cl.getD q 0 from fun e => a (by rw [e]; exact b))]; rfl
    · rw [if_neg a, if_neg b]
      unfold spl
      rw [decide_eq_false a]; simp
theorem spl_K {m : Mly} {cl : List Int} {p : Nat × Nat × Nat} {c d : Nat} (h : cl.getD c 0 = cl.getD p.2.1 0) : spl m cl p c d = (decide (cl.getD d 0 = cl.getD p.2.1 0) && agrS m (m.exR.getD p.1 eX0).1 c d) := by
  unfold spl
  rw [decide_eq_true h, h, Bool.not_true, Bool.false_or]
  congr 1
  exact decide_eq_decide.2 ⟨fun e => e.symm, fun e => e.symm⟩
end Go.AV
namespace Go.Proofs.Ytceafldjjedhcaa
open Go Go.AV
open Nat (reduceEqDiff reduceAdd reduceLeDiff reduceLT reduceMul reduceSub)
open List (set_cons_zero set_cons_succ)
set_option maxRecDepth 100000 in
set_option maxHeartbeats 1000000 in
theorem step38_c (m : Mly) (cl : List Int) : PURE Try.prog 15 [m.av, .one (.list (.int .i64) cl)] (.tup [.one (.list (.int .i64) (stpL m cl)), .one (.bool (stpB m cl)), .one (.int .i64 (chkE m cl))]) := by
  obtain ⟨p, hpt, hpn⟩ : ∃ p : Nat × Nat × Nat, ((finI m cl).isSome = true → finI m cl = some p) ∧ ((finI m cl).isSome = false → p = (0, 0, 0)) := by
    cases hf : finI m cl with
    | none => exact ⟨(0, 0, 0), fun h => by simp at h, fun _ => rfl⟩
    | some q => exact ⟨q, fun _ => rfl, fun h => by simp at h⟩
  refine pure_of_le Try.func15 rfl (by kernel_rfl) (Nat.le_of_ble_eq_true rfl) rfl fun C hP hN hB => ?_
  replace hN : C.N = 84 := hN
  simp only [argEnv, reduceAdd]
  refine awp_seq_k fun K1 hK1 => ?_
  refine awp_reg hP hN rfl ?_
  iterate 4 (refine rg_step rfl fun K0 hK0 => ?_; simp only [zE, op1, ev, lkp, avOf, acOf, opBox, cellsAV, reduceCtorEq, reduceEqDiff, reduceAdd, reduceLeDiff, reduceLT, reduceMul, reduceSub, Try.el25, Try.st24, Try.td24, Try.td25, Try.td3, Try.td4, Mly.av]; (repeat refine And.intro (by first | omega | assumption | exact rfl) ?_); (first | refine hK0 _ ?_ | refine Or.inl (hK0 _ ?_)); clear hK0 K0; simp only [put, app, setAll, trOf, zE, zS, reduceAdd])
  refine rg_nil ?_
  refine hK1 _ ?_; clear hK1; refine awp_keep [0, 1, 2, 4, 5, 6] ?_; simp only [keepEnv, lkp, zE, reduceCtorEq, reduceEqDiff, argEnv, reduceAdd]
  refine awp_seq_k fun K2 hK2 => ?_
  refine awp_seq_k fun K3 hK3 => ?_
  refine awp_reg hP hN rfl ?_
  iterate 2 (refine rg_step rfl fun K0 hK0 => ?_; simp only [zE, op1, ev, lkp, avOf, acOf, opLoad, Nat.mul_one, readAC, isAggK, acs, Ty.dflt, zG, cellsAt, reduceCtorEq, reduceEqDiff, reduceAdd, reduceLeDiff, reduceLT, reduceMul, reduceSub, Try.el25, Try.st24, Try.td24, Try.td25, Mly.av]; (repeat refine And.intro (by first | omega | assumption | exact rfl) ?_); (first | refine hK0 _ ?_ | refine Or.inl (hK0 _ ?_)); clear hK0 K0; simp only [put, app, setAll, trOf, zE, zS, reduceAdd])
  refine rg_step rfl fun K0 hK0 => ?_
  refine op_call (h := call_of_pure (chk2_c m cl)) rfl rfl (by first | exact rfl | (simp only [ev, keepEnv, lkp, zE, reduceCtorEq, reduceEqDiff, argEnv, reduceAdd]; exact rfl)) (by simp only [zE, zG, op1, ev, lkp, avOf, acOf, cellsAV, acs, capAV, mv1, mvC, Ty.dflt, reduceCtorEq, reduceEqDiff, reduceAdd, reduceLeDiff, reduceLT, reduceMul, reduceSub, Mly.av]) ?_
  refine hK0 _ ?_; clear hK0 K0; simp only [put, app, setAll, trOf, zE, zS, reduceAdd]
  (refine rg_step rfl fun K0 hK0 => ?_; simp only [zE, op1, ev, lkp, avOf, acOf, ev, reduceCtorEq, reduceEqDiff, reduceAdd, reduceLeDiff, reduceLT, reduceMul, reduceSub, Try.td3, Mly.av]; (repeat refine And.intro (by first | omega | assumption | exact rfl) ?_); (first | refine hK0 _ ?_ | refine Or.inl (hK0 _ ?_)); clear hK0 K0; simp only [put, app, setAll, trOf, zE, zS, reduceAdd])
  refine rg_nil ?_
  refine hK3 _ ?_; clear hK3; refine awp_keep [0, 1, 2, 4, 5, 6, 7] ?_; simp only [keepEnv, lkp, zE, reduceCtorEq, reduceEqDiff, argEnv, reduceAdd]
  refine awp_seq_k fun K4 hK4 => ?_
  refine awp_reg hP hN rfl ?_
  iterate 2 (refine rg_step rfl fun K0 hK0 => ?_; simp only [zE, op1, ev, lkp, avOf, acOf, opBin, arith, inK_i64, eqACs, eqAC, reduceCtorEq, reduceEqDiff, reduceAdd, reduceLeDiff, reduceLT, reduceMul, reduceSub, Try.td3, Try.td4, Mly.av]; (repeat refine And.intro (by first | omega | assumption | exact rfl) ?_); (first | refine hK0 _ ?_ | refine Or.inl (hK0 _ ?_)); clear hK0 K0; simp only [put, app, setAll, trOf, zE, zS, reduceAdd])
  refine rg_nil ?_
  refine hK4 _ ?_; clear hK4; refine awp_keep [0, 1, 2, 4, 5, 6, 7, 20] ?_; simp only [keepEnv, lkp, zE, reduceCtorEq, reduceEqDiff, argEnv, reduceAdd]
  refine awp_cond (by simp only [ev, keepEnv, lkp, zE, reduceCtorEq, reduceEqDiff, argEnv, reduceAdd]; exact rfl) (fun hc5 => ?_) (fun hc5 => ?_)
  · (try simp only [zB, reduceCtorEq] at hc5)
    refine awp_seq_k fun K6 hK6 => ?_
    refine awp_reg hP hN rfl ?_
    iterate 4 (refine rg_step rfl fun K0 hK0 => ?_; simp only [zE, op1, ev, lkp, avOf, acOf, ev, reduceCtorEq, reduceEqDiff, reduceAdd, reduceLeDiff, reduceLT, reduceMul, reduceSub, Try.el25, Try.td25, Try.td3, Try.td4, Mly.av]; (repeat refine And.intro (by first | omega | assumption | exact rfl) ?_); (first | refine hK0 _ ?_ | refine Or.inl (hK0 _ ?_)); clear hK0 K0; simp only [put, app, setAll, trOf, zE, zS, reduceAdd])
    refine rg_nil ?_
    refine hK6 _ ?_; clear hK6; refine awp_keep [0, 1, 2, 4, 5, 6, 7, 20] ?_; simp only [keepEnv, lkp, zE, reduceCtorEq, reduceEqDiff, argEnv, reduceAdd]
    refine awp_ret ?_
    refine ⟨by first | exact .inl rfl | exact .inr rfl, _, rfl, ?_⟩; simp only [fzV, fz1, fzC, List.map_cons, List.map_nil, keepEnv, lkp, zE, reduceCtorEq, reduceEqDiff, argEnv, reduceAdd, Mly.av]
    unfold stpL stpB
    first
    | (rw [if_neg ‹¬chkE m cl = 0›, if_neg ‹¬chkE m cl = 0›]; exact vle_tup ⟨vle1_one (cle_nils rfl), vle1_one (.refl _), vle1_one (.refl _), trivial⟩)
    | (rw [if_pos ‹chkE m cl = 0›, if_pos ‹chkE m cl = 0›, ‹chkE m cl = 0›, hfs]
       refine VLE.of_eq ?_
       dsimp only
       rw [o_num hk hpl]; rfl)
    | (rw [if_pos ‹chkE m cl = 0›, if_pos ‹chkE m cl = 0›, ‹chkE m cl = 0›, hfn]; exact VLE.of_eq (by simp [fzC]))
  · (try simp only [zB, reduceCtorEq] at hc5)
    refine awp_skip ?_
    refine hK2 _ ?_; clear hK2; refine awp_keep [0, 1, 2, 4, 5, 6, 7, 20] ?_; simp only [keepEnv, lkp, zE, reduceCtorEq, reduceEqDiff, argEnv, reduceAdd]
    refine awp_seq_k fun K7 hK7 => ?_
    refine awp_reg hP hN rfl ?_
    iterate 2 (refine rg_step rfl fun K0 hK0 => ?_; simp only [zE, op1, ev, lkp, avOf, acOf, opLoad, Nat.mul_one, readAC, isAggK, acs, Ty.dflt, zG, cellsAt, reduceCtorEq, reduceEqDiff, reduceAdd, reduceLeDiff, reduceLT, reduceMul, reduceSub, Try.el25, Try.st24, Try.td24, Try.td25, Mly.av]; (repeat refine And.intro (by first | omega | assumption | exact rfl) ?_); (first | refine hK0 _ ?_ | refine Or.inl (hK0 _ ?_)); clear hK0 K0; simp only [put, app, setAll, trOf, zE, zS, reduceAdd])
    refine rg_step rfl fun K0 hK0 => ?_
    refine op_call (h := call_of_pure (find3_c m cl (cok_of (by assumption)) _ rfl)) rfl rfl (by first | exact rfl | (simp only [ev, keepEnv, lkp, zE, reduceCtorEq, reduceEqDiff, argEnv, reduceAdd]; exact rfl)) (by simp only [zE, zG, op1, ev, lkp, avOf, acOf, cellsAV, acs, capAV, mv1, mvC, Ty.dflt, reduceCtorEq, reduceEqDiff, reduceAdd, reduceLeDiff, reduceLT, reduceMul, reduceSub, Mly.av]) ?_
    refine hK0 _ ?_; clear hK0 K0; simp only [put, app, setAll, trOf, zE, zS, reduceAdd]
    iterate 11 (refine rg_step rfl fun K0 hK0 => ?_; simp only [zE, op1, ev, lkp, avOf, acOf, opExtract, reduceCtorEq, reduceEqDiff, reduceAdd, reduceLeDiff, reduceLT, reduceMul, reduceSub, Try.el25, Try.td1, Try.td2, Try.td25, Try.td3, Try.td4, Mly.av]; (repeat refine And.intro (by first | omega | assumption | exact rfl) ?_); (first | refine hK0 _ ?_ | refine Or.inl (hK0 _ ?_)); clear hK0 K0; simp only [put, app, setAll, trOf, zE, zS, reduceAdd])
    refine rg_nil ?_
    refine hK7 _ ?_; clear hK7; refine awp_keep [0, 1, 2, 4, 5, 6, 7, 8, 9, 12, 20] ?_; simp only [keepEnv, lkp, zE, reduceCtorEq, reduceEqDiff, argEnv, reduceAdd]
    refine awp_seq_k fun K8 hK8 => ?_
    refine awp_reg hP hN rfl ?_
    iterate 2 (refine rg_step rfl fun K0 hK0 => ?_; simp only [zE, op1, ev, lkp, avOf, acOf, opBuildSlice, fillAC, chunk, rep, datOf, writeAC, cellsAV, Ty.size, reduceCtorEq, reduceEqDiff, reduceAdd, reduceLeDiff, reduceLT, reduceMul, reduceSub, Try.el22, Try.el25, Try.td1, Try.td22, Try.td25, Mly.av]; (repeat refine And.intro (by first | omega | assumption | exact rfl) ?_); (first | refine hK0 _ ?_ | refine Or.inl (hK0 _ ?_)); clear hK0 K0; simp only [put, app, setAll, trOf, zE, zS, reduceAdd])
    refine rg_step rfl fun K0 hK0 => ?_
    refine op_call (h := call_owns (joino_c [cl] (by have := (cntE_zero (cok_of (m := m) (cl := cl) (by assumption)).ce).1; simp; omega))) rfl rfl (by first | exact rfl | (simp only [ev, keepEnv, lkp, zE, reduceCtorEq, reduceEqDiff, argEnv, reduceAdd]; exact rfl)) (by simp only [zE, zG, op1, ev, lkp, avOf, acOf, cellsAV, acs, capAV, mv1, mvC, Ty.dflt, reduceCtorEq, reduceEqDiff, reduceAdd, reduceLeDiff, reduceLT, reduceMul, reduceSub, Mly.av]) ?_
    refine hK0 _ ?_; clear hK0 K0; simp only [put, app, setAll, trOf, zE, zS, reduceAdd]
    (refine rg_step rfl fun K0 hK0 => ?_; simp only [zE, op1, ev, lkp, avOf, acOf, ev, reduceCtorEq, reduceEqDiff, reduceAdd, reduceLeDiff, reduceLT, reduceMul, reduceSub, Try.el25, Try.td25, Mly.av]; (repeat refine And.intro (by first | omega | assumption | exact rfl) ?_); (first | refine hK0 _ ?_ | refine Or.inl (hK0 _ ?_)); clear hK0 K0; simp only [put, app, setAll, trOf, zE, zS, reduceAdd])
    refine rg_nil ?_
    refine hK8 _ ?_; clear hK8; refine awp_keep [0, 1, 2, 4, 5, 6, 7, 8, 9, 12, 13, 20] ?_; simp only [keepEnv, lkp, zE, reduceCtorEq, reduceEqDiff, argEnv, reduceAdd]
    refine awp_seq_k fun K9 hK9 => ?_
    refine awp_seq_k fun K10 hK10 => ?_
    simp only [List.flatten_cons, List.flatten_nil, List.append_nil]
    refine awp_reg hP hN rfl ?_
    iterate 2 (refine rg_step rfl fun K0 hK0 => ?_; simp only [zE, op1, ev, lkp, avOf, acOf, opUn, reduceCtorEq, reduceEqDiff, reduceAdd, reduceLeDiff, reduceLT, reduceMul, reduceSub, Try.td4, Mly.av]; (repeat refine And.intro (by first | omega | assumption | exact rfl) ?_); (first | refine hK0 _ ?_ | refine Or.inl (hK0 _ ?_)); clear hK0 K0; simp only [put, app, setAll, trOf, zE, zS, reduceAdd])
    refine rg_nil ?_
    refine hK10 _ ?_; clear hK10; refine awp_keep [0, 1, 2, 4, 5, 6, 7, 8, 9, 12, 13, 20, 35] ?_; simp only [keepEnv, lkp, zE, reduceCtorEq, reduceEqDiff, argEnv, reduceAdd]
    refine awp_cond (by simp only [ev, keepEnv, lkp, zE, reduceCtorEq, reduceEqDiff, argEnv, reduceAdd]; exact rfl) (fun hc11 => ?_) (fun hc11 => ?_)
    · (try simp only [zB, reduceCtorEq] at hc11)
      have hfn : finI m cl = none := by simpa using hc11
      refine awp_seq_k fun K12 hK12 => ?_
      refine awp_reg hP hN rfl ?_
      iterate 4 (refine rg_step rfl fun K0 hK0 => ?_; simp only [zE, op1, ev, lkp, avOf, acOf, ev, reduceCtorEq, reduceEqDiff, reduceAdd, reduceLeDiff, reduceLT, reduceMul, reduceSub, Try.el25, Try.td25, Try.td3, Try.td4, Mly.av]; (repeat refine And.intro (by first | omega | assumption | exact rfl) ?_); (first | refine hK0 _ ?_ | refine Or.inl (hK0 _ ?_)); clear hK0 K0; simp only [put, app, setAll, trOf, zE, zS, reduceAdd])
      refine rg_nil ?_
      refine hK12 _ ?_; clear hK12; refine awp_keep [0, 1, 2, 4, 5, 6, 7, 8, 9, 12, 13, 20, 35] ?_; simp only [keepEnv, lkp, zE, reduceCtorEq, reduceEqDiff, argEnv, reduceAdd]
      refine awp_ret ?_
      refine ⟨by first | exact .inl rfl | exact .inr rfl, _, rfl, ?_⟩; simp only [fzV, fz1, fzC, List.map_cons, List.map_nil, keepEnv, lkp, zE, reduceCtorEq, reduceEqDiff, argEnv, reduceAdd, Mly.av]
      unfold stpL stpB
      first
      | (rw [if_neg ‹¬chkE m cl = 0›, if_neg ‹¬chkE m cl = 0›]; exact vle_tup ⟨vle1_one (cle_nils rfl), vle1_one (.refl _), vle1_one (.refl _), trivial⟩)
      | (rw [if_pos ‹chkE m cl = 0›, if_pos ‹chkE m cl = 0›, ‹chkE m cl = 0›, hfs]
         refine VLE.of_eq ?_
         dsimp only
         rw [o_num hk hpl]; rfl)
      | (rw [if_pos ‹chkE m cl = 0›, if_pos ‹chkE m cl = 0›, ‹chkE m cl = 0›, hfn]; exact VLE.of_eq (by simp [fzC]))
    · (try simp only [zB, reduceCtorEq] at hc11)
      have hfs : finI m cl = some p := hpt (by simpa using hc11)
      have hk := cok_of (m := m) (cl := cl) (by assumption); have hm := hk.ok; have hlen := hk.len; have hi1 := hm.i1; have hi2 := hm.i2; have hps := finI_spec hfs; have hat := (wfx_exR hm).at_ hps.1.1; have hpl := hps.1.2.1
      have hS : fSt m (finI m cl) = (m.exR.getD p.1 eX0).1 := by rw [hfs]; rfl
      have hK : fKl cl (finI m cl) = (cl.getD p.2.1 0) := by rw [hfs]; rfl
      rw [hS, hK]
      refine awp_skip ?_
      refine hK9 _ ?_; clear hK9; refine awp_keep [0, 1, 2, 4, 5, 6, 7, 8, 9, 12, 13, 20, 35] ?_; simp only [keepEnv, lkp, zE, reduceCtorEq, reduceEqDiff, argEnv, reduceAdd]
      refine awp_seq_k fun K13 hK13 => ?_
      refine awp_seq_k fun K14 hK14 => ?_
      refine awp_reg hP hN rfl ?_
      (refine rg_step rfl fun K0 hK0 => ?_; simp only [zE, op1, ev, lkp, avOf, acOf, ev, reduceCtorEq, reduceEqDiff, reduceAdd, reduceLeDiff, reduceLT, reduceMul, reduceSub, Try.td3, Mly.av]; (repeat refine And.intro (by first | omega | assumption | exact rfl) ?_); (first | refine hK0 _ ?_ | refine Or.inl (hK0 _ ?_)); clear hK0 K0; simp only [put, app, setAll, trOf, zE, zS, reduceAdd])
      refine rg_nil ?_
      refine hK14 _ ?_; clear hK14; refine awp_keep [0, 1, 2, 4, 5, 6, 7, 8, 9, 12, 13, 14, 20, 35] ?_; simp only [keepEnv, lkp, zE, reduceCtorEq, reduceEqDiff, argEnv, reduceAdd]
      refine awp_block ?_
      refine awp_loop (fun n15 s15 => ∃ (c : Nat) (v : Nat), ((c : Int) ≤ m.inp) ∧ n15 = m.inp.toNat - c ∧ s15 = { env := [(1, .one (.list (.int .i64) cl)), (2, .one (.ptr 0 0 0 0)), (8, .one (.int .i64 (m.exR.getD p.1 eX0).1)), (9, .one (.int .i64 (cl.getD p.2.1 0))), (13, .one (.row 1 v)), (14, .one (.int .i64 (c : Int)))], L := [.vars 24 [.int .i64 m.inp, .int .i64 m.st, .list (.list (.int .i64)) m.nx, .list (.list (.int .i64)) m.ot], .row (.int .i64) 3 v (oL m cl p c)] }) ?_ ?_
      · exact ⟨_, _, sub_keep [1, 2, 8, 9, 13, 14], 0, 0, by omega, rfl, by rw [oL_zero]; rfl⟩
      · rintro n15 s15 ⟨c, v, hcl, rfl, rfl⟩
        refine awp_seq_k fun K16 hK16 => ?_
        refine awp_seq_k fun K17 hK17 => ?_
        refine awp_reg hP hN rfl ?_
        iterate 4 (refine rg_step rfl fun K0 hK0 => ?_; simp only [zE, op1, ev, lkp, avOf, acOf, opFieldAddr, opLoad, Nat.mul_one, readAC, isAggK, acs, Ty.dflt, zG, cellsAt, opBin, arith, inK_i64, eqACs, eqAC, reduceCtorEq, reduceEqDiff, reduceAdd, reduceLeDiff, reduceLT, reduceMul, reduceSub, Try.st24, Try.td24, Try.td3, Try.td4, Mly.av]; (repeat refine And.intro (by first | omega | assumption | exact rfl) ?_); (first | refine hK0 _ ?_ | refine Or.inl (hK0 _ ?_)); clear hK0 K0; simp only [put, app, setAll, trOf, zE, zS, reduceAdd])
        refine rg_nil ?_
        refine hK17 _ ?_; clear hK17; refine awp_keep [1, 2, 8, 9, 13, 14, 40] ?_; simp only [keepEnv, lkp, zE, reduceCtorEq, reduceEqDiff, argEnv, reduceAdd]
        refine awp_cond (by simp only [ev, keepEnv, lkp, zE, reduceCtorEq, reduceEqDiff, argEnv, reduceAdd]; exact rfl) (fun hc18 => ?_) (fun hc18 => ?_)
        · (try simp only [zB, reduceCtorEq] at hc18)
          refine awp_skip ?_
          refine hK16 _ ?_; clear hK16; refine awp_keep [1, 2, 8, 9, 13, 14, 40] ?_; simp only [keepEnv, lkp, zE, reduceCtorEq, reduceEqDiff, argEnv, reduceAdd]
          refine awp_seq_k fun K19 hK19 => ?_
          refine awp_block ?_
          refine awp_seq_k fun K20 hK20 => ?_
          refine awp_seq_k fun K21 hK21 => ?_
          refine awp_reg hP hN rfl ?_
          iterate 6 (refine rg_step rfl fun K0 hK0 => ?_; simp only [zE, op1, ev, lkp, avOf, acOf, opIndexAddr, zG, Ty.dflt, Ty.size, Nat.mul_one, ne_eq, not_false_eq_true, Int.natCast_one, Int.mul_one, opLoad, readAC, isAggK, acs, cellsAt, opBin, arith, inK_i64, eqACs, eqAC, reduceCtorEq, reduceEqDiff, reduceAdd, reduceLeDiff, reduceLT, reduceMul, reduceSub, Try.el25, Try.td25, Try.td3, Try.td4, Mly.av]; (repeat refine And.intro (by first | omega | assumption | exact rfl) ?_); (first | refine hK0 _ ?_ | refine Or.inl (hK0 _ ?_)); clear hK0 K0; simp only [put, app, setAll, trOf, zE, zS, reduceAdd])
          refine rg_nil ?_
          refine hK21 _ ?_; clear hK21; refine awp_keep [1, 2, 8, 9, 13, 14, 40, 48] ?_; simp only [keepEnv, lkp, zE, reduceCtorEq, reduceEqDiff, argEnv, reduceAdd]
          refine awp_cond (by simp only [ev, keepEnv, lkp, zE, reduceCtorEq, reduceEqDiff, argEnv, reduceAdd]; exact rfl) (fun hc22 => ?_) (fun hc22 => ?_)
          · (try simp only [zB, reduceCtorEq] at hc22)
            have hnk : ¬ cl.getD c 0 = cl.getD p.2.1 0 := hc22
            refine awp_exit ?_
            refine hK19 _ ?_; clear hK19; refine awp_keep [1, 2, 8, 9, 13, 14, 40, 48] ?_; simp only [keepEnv, lkp, zE, reduceCtorEq, reduceEqDiff, argEnv, reduceAdd]
            refine awp_reg hP hN rfl ?_
            iterate 3 (refine rg_step rfl fun K0 hK0 => ?_; simp only [zE, op1, ev, lkp, avOf, acOf, opBin, arith, inK_i64, eqACs, eqAC, reduceCtorEq, reduceEqDiff, reduceAdd, reduceLeDiff, reduceLT, reduceMul, reduceSub, Try.td3, Mly.av]; (repeat refine And.intro (by first | omega | assumption | exact rfl) ?_); (first | refine hK0 _ ?_ | refine Or.inl (hK0 _ ?_)); clear hK0 K0; simp only [put, app, setAll, trOf, zE, zS, reduceAdd])
            refine rg_nil ?_
            first
            | (refine ⟨_, _, ?_, sub_keep [1, 2, 8, 9, 13, 14], c + 1, v, by omega, rfl, by rw [oL_skip hnk]; rfl⟩
               omega)
            | (have hy0 : y = 0 := by omega
               subst hy0
               have hke := lkq_end (spl_eqt m cl p m.inp.toNat) (c := c) (by omega) hlk
               refine ⟨_, _, ?_, sub_keep [1, 2, 8, 9, 13, 14], c + 1, v2, by omega, rfl, ?_⟩
               · omega
               · rw [← oL_set (by omega), show oV m cl p c = m.inp + k from by unfold oV; rw [if_pos hck, hke]]; rfl)
          · (try simp only [zB, reduceCtorEq] at hc22)
            have hck : cl.getD c 0 = cl.getD p.2.1 0 := by simpa using hc22
            refine awp_skip ?_
            refine hK20 _ ?_; clear hK20; refine awp_keep [1, 2, 8, 9, 13, 14, 40, 48] ?_; simp only [keepEnv, lkp, zE, reduceCtorEq, reduceEqDiff, argEnv, reduceAdd]
            refine awp_seq_k fun K23 hK23 => ?_
            have hol := oL_len m cl p c
            refine awp_reg hP hN rfl ?_
            iterate 8 (refine rg_step rfl fun K0 hK0 => ?_; simp only [zE, op1, ev, lkp, avOf, acOf, opFieldAddr, opLoad, Nat.mul_one, readAC, isAggK, acs, Ty.dflt, zG, cellsAt, opBin, arith, inK_i64, eqACs, eqAC, opIndexAddr, Ty.size, ne_eq, not_false_eq_true, Int.natCast_one, Int.mul_one, opStore, cellsAV, writeAC, datOf, reduceCtorEq, reduceEqDiff, reduceAdd, reduceLeDiff, reduceLT, reduceMul, reduceSub, Try.el25, Try.st24, Try.td24, Try.td25, Try.td3, Mly.av]; (repeat refine And.intro (by first | omega | assumption | exact rfl) ?_); (first | refine hK0 _ ?_ | refine Or.inl (hK0 _ ?_)); clear hK0 K0; simp only [put, app, setAll, trOf, zE, zS, reduceAdd])
            refine rg_nil ?_
            refine hK23 _ ?_; clear hK23; refine awp_keep [1, 2, 8, 9, 13, 14, 40, 48] ?_; simp only [keepEnv, lkp, zE, reduceCtorEq, reduceEqDiff, argEnv, reduceAdd]
            refine awp_seq_k fun K24 hK24 => ?_
            refine awp_reg hP hN rfl ?_
            iterate 3 (refine rg_step rfl fun K0 hK0 => ?_; simp only [zE, op1, ev, lkp, avOf, acOf, opBin, arith, inK_i64, eqACs, eqAC, reduceCtorEq, reduceEqDiff, reduceAdd, reduceLeDiff, reduceLT, reduceMul, reduceSub, Try.td3, Mly.av]; (repeat refine And.intro (by first | omega | assumption | exact rfl) ?_); (first | refine hK0 _ ?_ | refine Or.inl (hK0 _ ?_)); clear hK0 K0; simp only [put, app, setAll, trOf, zE, zS, reduceAdd])
            refine rg_nil ?_
            refine hK24 _ ?_; clear hK24; refine awp_keep [1, 2, 8, 9, 13, 14, 15, 40, 48] ?_; simp only [keepEnv, lkp, zE, reduceCtorEq, reduceEqDiff, argEnv, reduceAdd]
            refine awp_block ?_
            refine awp_loop (fun n25 s25 => ∃ (y : Nat) (k : Int) (v2 : Nat), (y ≤ c) ∧ (LKQ (spl m cl p) c y k) ∧ n25 = y + 1 ∧ s25 = { env := [(1, .one (.list (.int .i64) cl)), (2, .one (.ptr 0 0 0 0)), (8, .one (.int .i64 (m.exR.getD p.1 eX0).1)), (9, .one (.int .i64 (cl.getD p.2.1 0))), (13, .one (.row 1 v2)), (14, .one (.int .i64 (c : Int))), (15, .one (.int .i64 ((y : Int) - 1)))], L := [.vars 24 [.int .i64 m.inp, .int .i64 m.st, .list (.list (.int .i64)) m.nx, .list (.list (.int .i64)) m.ot], .row (.int .i64) 3 v2 ((oL m cl p c).set c (m.inp + k))] }) ?_ ?_
            · exact ⟨_, _, sub_keep [1, 2, 8, 9, 13, 14, 15], c, (c : Int), _, Nat.le_refl _, lkq_top _ _, rfl, rfl⟩
            · rintro n25 s25 ⟨y, k, v2, hy, hlk, rfl, rfl⟩
              refine awp_seq_k fun K26 hK26 => ?_
              refine awp_seq_k fun K27 hK27 => ?_
              refine awp_reg hP hN rfl ?_
              iterate 2 (refine rg_step rfl fun K0 hK0 => ?_; simp only [zE, op1, ev, lkp, avOf, acOf, opBin, arith, inK_i64, eqACs, eqAC, reduceCtorEq, reduceEqDiff, reduceAdd, reduceLeDiff, reduceLT, reduceMul, reduceSub, Try.td3, Try.td4, Mly.av]; (repeat refine And.intro (by first | omega | assumption | exact rfl) ?_); (first | refine hK0 _ ?_ | refine Or.inl (hK0 _ ?_)); clear hK0 K0; simp only [put, app, setAll, trOf, zE, zS, reduceAdd])
              refine rg_nil ?_
              refine hK27 _ ?_; clear hK27; refine awp_keep [1, 2, 8, 9, 13, 14, 15, 59] ?_; simp only [keepEnv, lkp, zE, reduceCtorEq, reduceEqDiff, argEnv, reduceAdd]
              refine awp_cond (by simp only [ev, keepEnv, lkp, zE, reduceCtorEq, reduceEqDiff, argEnv, reduceAdd]; exact rfl) (fun hc28 => ?_) (fun hc28 => ?_)
              · (try simp only [zB, reduceCtorEq] at hc28)
                refine awp_skip ?_
                refine hK26 _ ?_; clear hK26; refine awp_keep [1, 2, 8, 9, 13, 14, 15, 59] ?_; simp only [keepEnv, lkp, zE, reduceCtorEq, reduceEqDiff, argEnv, reduceAdd]
                refine awp_seq_k fun K29 hK29 => ?_
                refine awp_block ?_
                refine awp_seq_k fun K30 hK30 => ?_
                have he1 : (y : Int) - 1 = ((y - 1 : Nat) : Int) := by omega
                refine awp_reg hP hN rfl ?_
                iterate 6 (refine rg_step rfl fun K0 hK0 => ?_; simp only [zE, op1, ev, lkp, avOf, acOf, opIndexAddr, zG, Ty.dflt, Ty.size, Nat.mul_one, ne_eq, not_false_eq_true, Int.natCast_one, Int.mul_one, opLoad, readAC, isAggK, acs, cellsAt, opBin, arith, inK_i64, eqACs, eqAC, reduceCtorEq, reduceEqDiff, reduceAdd, reduceLeDiff, reduceLT, reduceMul, reduceSub, Try.el25, Try.td25, Try.td3, Try.td4, Mly.av, he1]; (repeat refine And.intro (by first | omega | assumption | exact rfl) ?_); (first | refine hK0 _ ?_ | refine Or.inl (hK0 _ ?_)); clear hK0 K0; simp only [put, app, setAll, trOf, zE, zS, reduceAdd])
                (refine rg_step rfl fun K0 hK0 => ?_; simp only [zE, op1, ev, lkp, avOf, acOf, ev, reduceCtorEq, reduceEqDiff, reduceAdd, reduceLeDiff, reduceLT, reduceMul, reduceSub, Try.td4, Mly.av, he1]; (repeat refine And.intro (by first | omega | assumption | exact rfl) ?_); (first | refine hK0 _ ?_ | refine Or.inl (hK0 _ ?_)); clear hK0 K0; simp only [put, app, setAll, trOf, zE, zS, reduceAdd])
                refine' rg_join_n (want := true) 5 rfl (m := 68) (by simp only [keepEnv, lkp, zE, reduceCtorEq, reduceEqDiff, argEnv, reduceAdd]; exact rfl) (by kernel_rfl) rfl rfl rfl rfl rfl (fun hg31 => ?a31) ?b31 ?c31
                case a31 =>
                  have hq31 := hg31; (try simp only [zB, reduceCtorEq] at hg31); simp only [List.take_succ_cons, List.take_zero, List.cons_append, List.nil_append]
                  (refine rg_do rfl fun K0 hK0 => ?_; simp only [zE, op1, ev, lkp, avOf, acOf, opLoad, Nat.mul_one, readAC, isAggK, acs, Ty.dflt, zG, cellsAt, reduceCtorEq, reduceEqDiff, reduceAdd, reduceLeDiff, reduceLT, reduceMul, reduceSub, Try.st24, Try.td24, Mly.av, he1]; (repeat refine And.intro (by first | omega | assumption | exact rfl) ?_); (first | refine hK0 _ ?_ | refine Or.inl (hK0 _ ?_)); clear hK0 K0; simp only [put, app, setAll, trOf, zE, zS, reduceAdd])
                  (refine rg_do rfl fun K0 hK0 => ?_; simp only [zE, op1, ev, lkp, avOf, acOf, ev, reduceCtorEq, reduceEqDiff, reduceAdd, reduceLeDiff, reduceLT, reduceMul, reduceSub, Try.td3, Mly.av, he1]; (repeat refine And.intro (by first | omega | assumption | exact rfl) ?_); (first | refine hK0 _ ?_ | refine Or.inl (hK0 _ ?_)); clear hK0 K0; simp only [put, app, setAll, trOf, zE, zS, reduceAdd])
                  (refine rg_do rfl fun K0 hK0 => ?_; simp only [zE, op1, ev, lkp, avOf, acOf, ev, reduceCtorEq, reduceEqDiff, reduceAdd, reduceLeDiff, reduceLT, reduceMul, reduceSub, Try.td3, Mly.av, he1]; (repeat refine And.intro (by first | omega | assumption | exact rfl) ?_); (first | refine hK0 _ ?_ | refine Or.inl (hK0 _ ?_)); clear hK0 K0; simp only [put, app, setAll, trOf, zE, zS, reduceAdd])
                  (refine rg_do rfl fun K0 hK0 => ?_; simp only [zE, op1, ev, lkp, avOf, acOf, ev, reduceCtorEq, reduceEqDiff, reduceAdd, reduceLeDiff, reduceLT, reduceMul, reduceSub, Try.td3, Mly.av, he1]; (repeat refine And.intro (by first | omega | assumption | exact rfl) ?_); (first | refine hK0 _ ?_ | refine Or.inl (hK0 _ ?_)); clear hK0 K0; simp only [put, app, setAll, trOf, zE, zS, reduceAdd])
                  refine rg_do rfl fun K0 hK0 => ?_
                  refine op_call (h := call_of_pure (agree2_c m (m.exR.getD p.1 eX0).1 c (y - 1) hm hat (by omega) (by omega))) rfl rfl (by first | exact rfl | (simp only [ev, keepEnv, lkp, zE, reduceCtorEq, reduceEqDiff, argEnv, reduceAdd]; exact rfl)) (by simp only [zE, zG, op1, ev, lkp, avOf, acOf, cellsAV, acs, capAV, mv1, mvC, Ty.dflt, reduceCtorEq, reduceEqDiff, reduceAdd, reduceLeDiff, reduceLT, reduceMul, reduceSub, Mly.av, he1]) ?_
                  refine hK0 _ ?_; clear hK0 K0; simp only [put, app, setAll, trOf, zE, zS, reduceAdd]
                  (refine rg_step rfl fun K0 hK0 => ?_; simp only [zE, op1, ev, lkp, avOf, acOf, opPick, reduceCtorEq, reduceEqDiff, reduceAdd, reduceLeDiff, reduceLT, reduceMul, reduceSub, Try.td4, Mly.av, he1]; (repeat refine And.intro (by first | omega | assumption | exact rfl) ?_); (first | refine hK0 _ ?_ | refine Or.inl (hK0 _ ?_)); clear hK0 K0; simp only [put, app, setAll, trOf, zE, zS, reduceAdd])
                  refine rg_nil ?_
                  refine ⟨by simp only [keepEnv, lkp, zE, reduceCtorEq, reduceEqDiff, argEnv, reduceAdd]; exact rfl, rfl, ?_, rfl⟩; (repeat refine keep_cons rfl ?_); exact keep_m (by exact rfl) hq31
                case b31 => exact tle_of (by first | rfl | (simp [tleB]; done) | decide)
                simp only [join_or, join_and]
                refine rg_nil ?_
                refine hK30 _ ?_; clear hK30; refine awp_keep [1, 2, 8, 9, 13, 14, 15, 59, 74] ?_; simp only [keepEnv, lkp, zE, reduceCtorEq, reduceEqDiff, argEnv, reduceAdd]
                refine awp_cond (by simp only [ev, keepEnv, lkp, zE, reduceCtorEq, reduceEqDiff, argEnv, reduceAdd]; exact rfl) (fun hc32 => ?_) (fun hc32 => ?_)
                · (try simp only [zB, reduceCtorEq] at hc32)
                  have hsp : spl m cl p c (y - 1) = true := by rw [spl_K hck]; simpa using hc32
                  have hol2 : ((oL m cl p c).set c (m.inp + k)).length = cl.length := by rw [List.length_set, oL_len]
                  have hKd : cl.getD (y - 1) 0 = cl.getD p.2.1 0 := by simp_all
                  have hrd : ((oL m cl p c).set c (m.inp + k)).getD (y - 1) 0 = m.inp + (lst (spl m cl p) (y - 1) : Int) := by
                    rw [getD_set (by rw [oL_len]; omega), if_neg (by omega), oL_at (by omega), if_pos (by omega)]; unfold oV; rw [if_pos hKd]
                  refine awp_reg hP hN rfl ?_
                  iterate 8 (refine rg_step rfl fun K0 hK0 => ?_; simp only [zE, op1, ev, lkp, avOf, acOf, opIndexAddr, zG, Ty.dflt, Ty.size, Nat.mul_one, ne_eq, not_false_eq_true, Int.natCast_one, Int.mul_one, opLoad, readAC, isAggK, acs, cellsAt, opStore, cellsAV, writeAC, datOf, reduceCtorEq, reduceEqDiff, reduceAdd, reduceLeDiff, reduceLT, reduceMul, reduceSub, Try.el25, Try.td25, Try.td3, Mly.av, he1, hrd]; (repeat refine And.intro (by first | omega | assumption | exact rfl) ?_); (first | refine hK0 _ ?_ | refine Or.inl (hK0 _ ?_)); clear hK0 K0; simp only [put, app, setAll, trOf, zE, zS, reduceAdd])
                  refine rg_nil ?_
                  refine hK29 _ ?_; clear hK29; refine awp_keep [1, 2, 8, 9, 13, 14, 15, 59, 74] ?_; simp only [keepEnv, lkp, zE, reduceCtorEq, reduceEqDiff, argEnv, reduceAdd]
                  refine awp_reg hP hN rfl ?_
                  iterate 3 (refine rg_step rfl fun K0 hK0 => ?_; simp only [zE, op1, ev, lkp, avOf, acOf, opBin, arith, inK_i64, eqACs, eqAC, reduceCtorEq, reduceEqDiff, reduceAdd, reduceLeDiff, reduceLT, reduceMul, reduceSub, Try.td3, Mly.av]; (repeat refine And.intro (by first | omega | assumption | exact rfl) ?_); (first | refine hK0 _ ?_ | refine Or.inl (hK0 _ ?_)); clear hK0 K0; simp only [put, app, setAll, trOf, zE, zS, reduceAdd])
                  refine rg_nil ?_
                  obtain ⟨f, rfl⟩ : ∃ f, y = f + 1 := ⟨y - 1, by omega⟩
                  first
                  | (have hsp2 : spl m cl p c f = false := hsp
                     refine ⟨_, _, ?_, sub_keep [1, 2, 8, 9, 13, 14, 15], f, k, v2, by omega, lkq_miss hlk hsp2, rfl, ?_⟩
                     · omega
                     · simp only [he1, Nat.add_sub_cancel]; rfl)
                  | (have hsp2 : spl m cl p c f = true := hsp
                     refine ⟨_, _, ?_, sub_keep [1, 2, 8, 9, 13, 14, 15], f, (lst (spl m cl p) f : Int), v2, by omega, lkq_hit (by omega) hsp2, rfl, ?_⟩
                     · omega
                     · simp only [he1, List.set_set, Nat.add_sub_cancel]; rfl)
                · (try simp only [zB, reduceCtorEq] at hc32)
                  have hsp : spl m cl p c (y - 1) = false := by
                    rw [spl_K hck]
                    have hq := hc32
                    revert hq
                    cases agrS m (m.exR.getD p.1 eX0).1 c (y - 1) <;> simp
                  refine awp_skip ?_
                  refine hK29 _ ?_; clear hK29; refine awp_keep [1, 2, 8, 9, 13, 14, 15, 59, 74] ?_; simp only [keepEnv, lkp, zE, reduceCtorEq, reduceEqDiff, argEnv, reduceAdd]
                  refine awp_reg hP hN rfl ?_
                  iterate 3 (refine rg_step rfl fun K0 hK0 => ?_; simp only [zE, op1, ev, lkp, avOf, acOf, opBin, arith, inK_i64, eqACs, eqAC, reduceCtorEq, reduceEqDiff, reduceAdd, reduceLeDiff, reduceLT, reduceMul, reduceSub, Try.td3, Mly.av]; (repeat refine And.intro (by first | omega | assumption | exact rfl) ?_); (first | refine hK0 _ ?_ | refine Or.inl (hK0 _ ?_)); clear hK0 K0; simp only [put, app, setAll, trOf, zE, zS, reduceAdd])
                  refine rg_nil ?_
                  obtain ⟨f, rfl⟩ : ∃ f, y = f + 1 := ⟨y - 1, by omega⟩
                  first
                  | (have hsp2 : spl m cl p c f = false := hsp
                     refine ⟨_, _, ?_, sub_keep [1, 2, 8, 9, 13, 14, 15], f, k, v2, by omega, lkq_miss hlk hsp2, rfl, ?_⟩
                     · omega
                     · simp only [he1, Nat.add_sub_cancel]; rfl)
                  | (have hsp2 : spl m cl p c f = true := hsp
                     refine ⟨_, _, ?_, sub_keep [1, 2, 8, 9, 13, 14, 15], f, (lst (spl m cl p) f : Int), v2, by omega, lkq_hit (by omega) hsp2, rfl, ?_⟩
                     · omega
                     · simp only [he1, List.set_set, Nat.add_sub_cancel]; rfl)
              · (try simp only [zB, reduceCtorEq] at hc28)
                refine awp_exit ?_
                refine hK19 _ ?_; clear hK19; refine awp_keep [1, 2, 8, 9, 13, 14, 15, 59] ?_; simp only [keepEnv, lkp, zE, reduceCtorEq, reduceEqDiff, argEnv, reduceAdd]
                refine awp_reg hP hN rfl ?_
                iterate 3 (refine rg_step rfl fun K0 hK0 => ?_; simp only [zE, op1, ev, lkp, avOf, acOf, opBin, arith, inK_i64, eqACs, eqAC, reduceCtorEq, reduceEqDiff, reduceAdd, reduceLeDiff, reduceLT, reduceMul, reduceSub, Try.td3, Mly.av]; (repeat refine And.intro (by first | omega | assumption | exact rfl) ?_); (first | refine hK0 _ ?_ | refine Or.inl (hK0 _ ?_)); clear hK0 K0; simp only [put, app, setAll, trOf, zE, zS, reduceAdd])
                refine rg_nil ?_
                first
                | (refine ⟨_, _, ?_, sub_keep [1, 2, 8, 9, 13, 14], c + 1, v, by omega, rfl, by rw [oL_skip hnk]; rfl⟩
                   omega)
                | (have hy0 : y = 0 := by omega
                   subst hy0
                   have hke := lkq_end (spl_eqt m cl p m.inp.toNat) (c := c) (by omega) hlk
                   refine ⟨_, _, ?_, sub_keep [1, 2, 8, 9, 13, 14], c + 1, v2, by omega, rfl, ?_⟩
                   · omega
                   · rw [← oL_set (by omega), show oV m cl p c = m.inp + k from by unfold oV; rw [if_pos hck, hke]]; rfl)
        · (try simp only [zB, reduceCtorEq] at hc18)
          refine awp_exit ?_
          refine hK13 _ ?_; clear hK13; refine awp_keep [1, 2, 8, 9, 13, 14, 40] ?_; simp only [keepEnv, lkp, zE, reduceCtorEq, reduceEqDiff, argEnv, reduceAdd]
          refine awp_seq_k fun K33 hK33 => ?_
          have hci : c = cl.length := by omega
          subst hci
          have hol3 := oL_len m cl p cl.length
          refine awp_freeze 1 rfl ?_; simp only [List.map_cons, List.map_nil, zS, reduceEqDiff, and_self, and_true, true_and, and_false, false_and, if_true, if_false, eq_self, reduceCtorEq, Nat.one_ne_zero, Nat.zero_ne_one]
          refine awp_reg hP hN rfl ?_
          (refine rg_step rfl fun K0 hK0 => ?_; simp only [zE, op1, ev, lkp, avOf, acOf, ev, reduceCtorEq, reduceEqDiff, reduceAdd, reduceLeDiff, reduceLT, reduceMul, reduceSub, Try.el25, Try.td25, Mly.av]; (repeat refine And.intro (by first | omega | assumption | exact rfl) ?_); (first | refine hK0 _ ?_ | refine Or.inl (hK0 _ ?_)); clear hK0 K0; simp only [put, app, setAll, trOf, zE, zS, reduceAdd])
          refine rg_step rfl fun K0 hK0 => ?_
          refine op_call (h := call_of_pure (nmdK_c (oL m cl p cl.length) m.inp.toNat (by rw [oL_len]; omega) (by omega))) rfl rfl (by first | exact rfl | (simp only [ev, keepEnv, lkp, zE, reduceCtorEq, reduceEqDiff, argEnv, reduceAdd]; exact rfl)) (by simp only [zE, zG, op1, ev, lkp, avOf, acOf, cellsAV, acs, capAV, mv1, mvC, Ty.dflt, reduceCtorEq, reduceEqDiff, reduceAdd, reduceLeDiff, reduceLT, reduceMul, reduceSub, Mly.av]) ?_
          refine hK0 _ ?_; clear hK0 K0; simp only [put, app, setAll, trOf, zE, zS, reduceAdd]
          iterate 3 (refine rg_step rfl fun K0 hK0 => ?_; simp only [zE, op1, ev, lkp, avOf, acOf, ev, reduceCtorEq, reduceEqDiff, reduceAdd, reduceLeDiff, reduceLT, reduceMul, reduceSub, Try.el25, Try.td25, Try.td3, Try.td4, Mly.av]; (repeat refine And.intro (by first | omega | assumption | exact rfl) ?_); (first | refine hK0 _ ?_ | refine Or.inl (hK0 _ ?_)); clear hK0 K0; simp only [put, app, setAll, trOf, zE, zS, reduceAdd])
          refine rg_nil ?_
          refine hK33 _ ?_; clear hK33; refine awp_keep [1, 2, 4, 5, 6, 8, 9, 13, 14, 40] ?_; simp only [keepEnv, lkp, zE, reduceCtorEq, reduceEqDiff, argEnv, reduceAdd]
          refine awp_ret ?_
          refine ⟨by first | exact .inl rfl | exact .inr rfl, _, rfl, ?_⟩; simp only [fzV, fz1, fzC, List.map_cons, List.map_nil, keepEnv, lkp, zE, reduceCtorEq, reduceEqDiff, argEnv, reduceAdd, Mly.av]
          unfold stpL stpB
          first
          | (rw [if_neg ‹¬chkE m cl = 0›, if_neg ‹¬chkE m cl = 0›]; exact vle_tup ⟨vle1_one (cle_nils rfl), vle1_one (.refl _), vle1_one (.refl _), trivial⟩)
          | (rw [if_pos ‹chkE m cl = 0›, if_pos ‹chkE m cl = 0›, ‹chkE m cl = 0›, hfs]
             refine VLE.of_eq ?_
             dsimp only
             rw [o_num hk hpl]; rfl)
          | (rw [if_pos ‹chkE m cl = 0›, if_pos ‹chkE m cl = 0›, ‹chkE m cl = 0›, hfn]; exact VLE.of_eq (by simp [fzC]))
end Go.Proofs.Ytceafldjjedhcaa
namespace Go.Proofs.Ytceafldjjedhcaa
open Go Go.AV
open Nat (reduceEqDiff reduceAdd reduceLeDiff reduceLT reduceMul reduceSub)
open List (set_cons_zero set_cons_succ)
set_option maxRecDepth 100000 in
set_option maxHeartbeats 1000000 in
theorem law38t (m : Mly) (cl : List Int) : PURE Try.prog 4 [m.av, .one (.list (.int .i64) cl)] (.one (.bool true)) := by
  refine pure_of_le Try.func4 rfl (by kernel_rfl) (Nat.le_of_ble_eq_true rfl) rfl fun C hP hN hB => ?_
  replace hN : C.N = 45 := hN
  simp only [argEnv, reduceAdd]
  refine awp_seq_k fun K1 hK1 => ?_
  refine awp_reg hP hN rfl ?_
  iterate 2 (refine rg_step rfl fun K0 hK0 => ?_; simp only [zE, op1, ev, lkp, avOf, acOf, opBox, cellsAV, reduceCtorEq, reduceEqDiff, reduceAdd, reduceLeDiff, reduceLT, reduceMul, reduceSub, Try.st24, Try.td24, Try.td4, Mly.av]; (repeat refine And.intro (by first | omega | assumption | exact rfl) ?_); (first | refine hK0 _ ?_ | refine Or.inl (hK0 _ ?_)); clear hK0 K0; simp only [put, app, setAll, trOf, zE, zS, reduceAdd])
  refine rg_nil ?_
  refine hK1 _ ?_; clear hK1; refine awp_keep [0, 1, 2, 4] ?_; simp only [keepEnv, lkp, zE, reduceCtorEq, reduceEqDiff, argEnv, reduceAdd]
  refine awp_seq_k fun K2 hK2 => ?_
  refine awp_seq_k fun K3 hK3 => ?_
  refine awp_reg hP hN rfl ?_
  (refine rg_step rfl fun K0 hK0 => ?_; simp only [zE, op1, ev, lkp, avOf, acOf, opLoad, Nat.mul_one, readAC, isAggK, acs, Ty.dflt, zG, cellsAt, reduceCtorEq, reduceEqDiff, reduceAdd, reduceLeDiff, reduceLT, reduceMul, reduceSub, Try.st24, Try.td24, Mly.av]; (repeat refine And.intro (by first | omega | assumption | exact rfl) ?_); (first | refine hK0 _ ?_ | refine Or.inl (hK0 _ ?_)); clear hK0 K0; simp only [put, app, setAll, trOf, zE, zS, reduceAdd])
  refine rg_step rfl fun K0 hK0 => ?_
  refine op_call (h := call_of_pure (small_c m)) rfl rfl (by first | exact rfl | (simp only [ev, keepEnv, lkp, zE, reduceCtorEq, reduceEqDiff, argEnv, reduceAdd]; exact rfl)) (by simp only [zE, zG, op1, ev, lkp, avOf, acOf, cellsAV, acs, capAV, mv1, mvC, Ty.dflt, reduceCtorEq, reduceEqDiff, reduceAdd, reduceLeDiff, reduceLT, reduceMul, reduceSub, Mly.av]) ?_
  refine hK0 _ ?_; clear hK0 K0; simp only [put, app, setAll, trOf, zE, zS, reduceAdd]
  (refine rg_step rfl fun K0 hK0 => ?_; simp only [zE, op1, ev, lkp, avOf, acOf, opUn, reduceCtorEq, reduceEqDiff, reduceAdd, reduceLeDiff, reduceLT, reduceMul, reduceSub, Try.td4, Mly.av]; (repeat refine And.intro (by first | omega | assumption | exact rfl) ?_); (first | refine hK0 _ ?_ | refine Or.inl (hK0 _ ?_)); clear hK0 K0; simp only [put, app, setAll, trOf, zE, zS, reduceAdd])
  refine rg_nil ?_
  refine hK3 _ ?_; clear hK3; refine awp_keep [0, 1, 2, 4, 13] ?_; simp only [keepEnv, lkp, zE, reduceCtorEq, reduceEqDiff, argEnv, reduceAdd]
  refine awp_cond (by simp only [ev, keepEnv, lkp, zE, reduceCtorEq, reduceEqDiff, argEnv, reduceAdd]; exact rfl) (fun hc4 => ?_) (fun hc4 => ?_)
  · (try simp only [zB, reduceCtorEq] at hc4)
    refine awp_seq_k fun K5 hK5 => ?_
    refine awp_reg hP hN rfl ?_
    refine rg_step rfl fun K0 hK0 => ?_
    refine op_call (h := call_of_pure awake38_c) rfl rfl (by first | exact rfl | (simp only [ev, keepEnv, lkp, zE, reduceCtorEq, reduceEqDiff, argEnv, reduceAdd]; exact rfl)) (by simp only [zE, zG, op1, ev, lkp, avOf, acOf, cellsAV, acs, capAV, mv1, mvC, Ty.dflt, reduceCtorEq, reduceEqDiff, reduceAdd, reduceLeDiff, reduceLT, reduceMul, reduceSub, Mly.av]) ?_
    refine hK0 _ ?_; clear hK0 K0; simp only [put, app, setAll, trOf, zE, zS, reduceAdd]
    (refine rg_step rfl fun K0 hK0 => ?_; simp only [zE, op1, ev, lkp, avOf, acOf, ev, reduceCtorEq, reduceEqDiff, reduceAdd, reduceLeDiff, reduceLT, reduceMul, reduceSub, Try.td4, Mly.av]; (repeat refine And.intro (by first | omega | assumption | exact rfl) ?_); (first | refine hK0 _ ?_ | refine Or.inl (hK0 _ ?_)); clear hK0 K0; simp only [put, app, setAll, trOf, zE, zS, reduceAdd])
    refine rg_nil ?_
    refine hK5 _ ?_; clear hK5; refine awp_keep [0, 1, 2, 4, 13] ?_; simp only [keepEnv, lkp, zE, reduceCtorEq, reduceEqDiff, argEnv, reduceAdd]
    refine awp_ret ?_
    refine ⟨by first | exact .inl rfl | exact .inr rfl, _, rfl, ?_⟩; simp only [fzV, fz1, fzC, List.map_cons, List.map_nil, keepEnv, lkp, zE, reduceCtorEq, reduceEqDiff, argEnv, reduceAdd, Mly.av]
    refine VLE.of_eq ?_
    first | rfl | (refine congrArg (fun b => AV.one (AC.bool b)) ?_; simp_all)
  · (try simp only [zB, reduceCtorEq] at hc4)
    refine awp_skip ?_
    refine hK2 _ ?_; clear hK2; refine awp_keep [0, 1, 2, 4, 13] ?_; simp only [keepEnv, lkp, zE, reduceCtorEq, reduceEqDiff, argEnv, reduceAdd]
    refine awp_seq_k fun K6 hK6 => ?_
    refine awp_reg hP hN rfl ?_
    iterate 2 (refine rg_step rfl fun K0 hK0 => ?_; simp only [zE, op1, ev, lkp, avOf, acOf, opLoad, Nat.mul_one, readAC, isAggK, acs, Ty.dflt, zG, cellsAt, reduceCtorEq, reduceEqDiff, reduceAdd, reduceLeDiff, reduceLT, reduceMul, reduceSub, Try.el25, Try.st24, Try.td24, Try.td25, Mly.av]; (repeat refine And.intro (by first | omega | assumption | exact rfl) ?_); (first | refine hK0 _ ?_ | refine Or.inl (hK0 _ ?_)); clear hK0 K0; simp only [put, app, setAll, trOf, zE, zS, reduceAdd])
    refine rg_step rfl fun K0 hK0 => ?_
    refine op_call (h := call_of_pure (step_c2 m cl)) rfl rfl (by first | exact rfl | (simp only [ev, keepEnv, lkp, zE, reduceCtorEq, reduceEqDiff, argEnv, reduceAdd]; exact rfl)) (by simp only [zE, zG, op1, ev, lkp, avOf, acOf, cellsAV, acs, capAV, mv1, mvC, Ty.dflt, reduceCtorEq, reduceEqDiff, reduceAdd, reduceLeDiff, reduceLT, reduceMul, reduceSub, Mly.av]) ?_
    refine hK0 _ ?_; clear hK0 K0; simp only [put, app, setAll, trOf, zE, zS, reduceAdd]
    iterate 7 (refine rg_step rfl fun K0 hK0 => ?_; simp only [zE, op1, ev, lkp, avOf, acOf, opExtract, reduceCtorEq, reduceEqDiff, reduceAdd, reduceLeDiff, reduceLT, reduceMul, reduceSub, Try.el25, Try.td1, Try.td2, Try.td25, Try.td28, Try.td4, Mly.av]; (repeat refine And.intro (by first | omega | assumption | exact rfl) ?_); (first | refine hK0 _ ?_ | refine Or.inl (hK0 _ ?_)); clear hK0 K0; simp only [put, app, setAll, trOf, zE, zS, reduceAdd])
    refine rg_nil ?_
    refine hK6 _ ?_; clear hK6; refine awp_keep [0, 1, 2, 4, 5, 6, 7, 13] ?_; simp only [keepEnv, lkp, zE, reduceCtorEq, reduceEqDiff, argEnv, reduceAdd]
    refine awp_seq_k fun K7 hK7 => ?_
    refine awp_reg hP hN rfl ?_
    iterate 2 (refine rg_step rfl fun K0 hK0 => ?_; simp only [zE, op1, ev, lkp, avOf, acOf, opLoad, Nat.mul_one, readAC, isAggK, acs, Ty.dflt, zG, cellsAt, reduceCtorEq, reduceEqDiff, reduceAdd, reduceLeDiff, reduceLT, reduceMul, reduceSub, Try.el25, Try.st24, Try.td24, Try.td25, Mly.av]; (repeat refine And.intro (by first | omega | assumption | exact rfl) ?_); (first | refine hK0 _ ?_ | refine Or.inl (hK0 _ ?_)); clear hK0 K0; simp only [put, app, setAll, trOf, zE, zS, reduceAdd])
    refine rg_step rfl fun K0 hK0 => ?_
    refine op_call (h := call_of_pure (step38_c m cl)) rfl rfl (by first | exact rfl | (simp only [ev, keepEnv, lkp, zE, reduceCtorEq, reduceEqDiff, argEnv, reduceAdd]; exact rfl)) (by simp only [zE, zG, op1, ev, lkp, avOf, acOf, cellsAV, acs, capAV, mv1, mvC, Ty.dflt, reduceCtorEq, reduceEqDiff, reduceAdd, reduceLeDiff, reduceLT, reduceMul, reduceSub, Mly.av]) ?_
    refine hK0 _ ?_; clear hK0 K0; simp only [put, app, setAll, trOf, zE, zS, reduceAdd]
    iterate 7 (refine rg_step rfl fun K0 hK0 => ?_; simp only [zE, op1, ev, lkp, avOf, acOf, opExtract, reduceCtorEq, reduceEqDiff, reduceAdd, reduceLeDiff, reduceLT, reduceMul, reduceSub, Try.el25, Try.td1, Try.td2, Try.td25, Try.td3, Try.td4, Mly.av]; (repeat refine And.intro (by first | omega | assumption | exact rfl) ?_); (first | refine hK0 _ ?_ | refine Or.inl (hK0 _ ?_)); clear hK0 K0; simp only [put, app, setAll, trOf, zE, zS, reduceAdd])
    refine rg_nil ?_
    refine hK7 _ ?_; clear hK7; refine awp_keep [0, 1, 2, 4, 5, 6, 7, 8, 9, 10, 13] ?_; simp only [keepEnv, lkp, zE, reduceCtorEq, reduceEqDiff, argEnv, reduceAdd]
    refine awp_seq_k fun K8 hK8 => ?_
    refine awp_reg hP hN rfl ?_
    iterate 2 (refine rg_step rfl fun K0 hK0 => ?_; simp only [zE, op1, ev, lkp, avOf, acOf, ev, reduceCtorEq, reduceEqDiff, reduceAdd, reduceLeDiff, reduceLT, reduceMul, reduceSub, Try.el25, Try.td25, Mly.av]; (repeat refine And.intro (by first | omega | assumption | exact rfl) ?_); (first | refine hK0 _ ?_ | refine Or.inl (hK0 _ ?_)); clear hK0 K0; simp only [put, app, setAll, trOf, zE, zS, reduceAdd])
    refine rg_step rfl fun K0 hK0 => ?_
    refine op_call (h := call_of_pure (ints_c (stpL m cl) (stpL m cl))) rfl rfl (by first | exact rfl | (simp only [ev, keepEnv, lkp, zE, reduceCtorEq, reduceEqDiff, argEnv, reduceAdd]; exact rfl)) (by simp only [zE, zG, op1, ev, lkp, avOf, acOf, cellsAV, acs, capAV, mv1, mvC, Ty.dflt, reduceCtorEq, reduceEqDiff, reduceAdd, reduceLeDiff, reduceLT, reduceMul, reduceSub, Mly.av]) ?_
    refine hK0 _ ?_; clear hK0 K0; simp only [put, app, setAll, trOf, zE, zS, reduceAdd]
    (refine rg_step rfl fun K0 hK0 => ?_; simp only [zE, op1, ev, lkp, avOf, acOf, ev, reduceCtorEq, reduceEqDiff, reduceAdd, reduceLeDiff, reduceLT, reduceMul, reduceSub, Try.td4, Mly.av]; (repeat refine And.intro (by first | omega | assumption | exact rfl) ?_); (first | refine hK0 _ ?_ | refine Or.inl (hK0 _ ?_)); clear hK0 K0; simp only [put, app, setAll, trOf, zE, zS, reduceAdd])
    refine' rg_join_n (want := true) 3 rfl (m := 32) (by simp only [keepEnv, lkp, zE, reduceCtorEq, reduceEqDiff, argEnv, reduceAdd]; exact rfl) (by kernel_rfl) rfl rfl rfl rfl rfl (fun hg9 => ?a9) ?b9 ?c9
    case a9 =>
      have hq9 := hg9; (try simp only [zB, reduceCtorEq] at hg9); simp only [List.take_succ_cons, List.take_zero, List.cons_append, List.nil_append]
      (refine rg_do rfl fun K0 hK0 => ?_; simp only [zE, op1, ev, lkp, avOf, acOf, ev, reduceCtorEq, reduceEqDiff, reduceAdd, reduceLeDiff, reduceLT, reduceMul, reduceSub, Try.td4, Mly.av]; (repeat refine And.intro (by first | omega | assumption | exact rfl) ?_); (first | refine hK0 _ ?_ | refine Or.inl (hK0 _ ?_)); clear hK0 K0; simp only [put, app, setAll, trOf, zE, zS, reduceAdd])
      (refine rg_do rfl fun K0 hK0 => ?_; simp only [zE, op1, ev, lkp, avOf, acOf, ev, reduceCtorEq, reduceEqDiff, reduceAdd, reduceLeDiff, reduceLT, reduceMul, reduceSub, Try.td4, Mly.av]; (repeat refine And.intro (by first | omega | assumption | exact rfl) ?_); (first | refine hK0 _ ?_ | refine Or.inl (hK0 _ ?_)); clear hK0 K0; simp only [put, app, setAll, trOf, zE, zS, reduceAdd])
      (refine rg_do rfl fun K0 hK0 => ?_; simp only [zE, op1, ev, lkp, avOf, acOf, opBin, arith, inK_i64, eqACs, eqAC, reduceCtorEq, reduceEqDiff, reduceAdd, reduceLeDiff, reduceLT, reduceMul, reduceSub, Try.td4, Mly.av]; (repeat refine And.intro (by first | omega | assumption | exact rfl) ?_); (first | refine hK0 _ ?_ | refine Or.inl (hK0 _ ?_)); clear hK0 K0; simp only [put, app, setAll, trOf, zE, zS, reduceAdd])
      (refine rg_step rfl fun K0 hK0 => ?_; simp only [zE, op1, ev, lkp, avOf, acOf, opPick, reduceCtorEq, reduceEqDiff, reduceAdd, reduceLeDiff, reduceLT, reduceMul, reduceSub, Try.td4, Mly.av]; (repeat refine And.intro (by first | omega | assumption | exact rfl) ?_); (first | refine hK0 _ ?_ | refine Or.inl (hK0 _ ?_)); clear hK0 K0; simp only [put, app, setAll, trOf, zE, zS, reduceAdd])
      refine rg_nil ?_
      refine ⟨by simp only [keepEnv, lkp, zE, reduceCtorEq, reduceEqDiff, argEnv, reduceAdd]; exact rfl, rfl, ?_, rfl⟩; (repeat refine keep_cons rfl ?_); exact keep_m (by exact rfl) hq9
    case b9 => exact tle_of (by first | rfl | (simp [tleB]; done) | decide)
    simp only [join_or, join_and]
    (refine rg_step rfl fun K0 hK0 => ?_; simp only [zE, op1, ev, lkp, avOf, acOf, ev, reduceCtorEq, reduceEqDiff, reduceAdd, reduceLeDiff, reduceLT, reduceMul, reduceSub, Try.td4, Mly.av]; (repeat refine And.intro (by first | omega | assumption | exact rfl) ?_); (first | refine hK0 _ ?_ | refine Or.inl (hK0 _ ?_)); clear hK0 K0; simp only [put, app, setAll, trOf, zE, zS, reduceAdd])
    refine' rg_join_n (want := true) 3 rfl (m := 37) (by simp only [keepEnv, lkp, zE, reduceCtorEq, reduceEqDiff, argEnv, reduceAdd]; exact rfl) (by kernel_rfl) rfl rfl rfl rfl rfl (fun hg10 => ?a10) ?b10 ?c10
    case a10 =>
      have hq10 := hg10; (try simp only [zB, reduceCtorEq] at hg10); simp only [List.take_succ_cons, List.take_zero, List.cons_append, List.nil_append]
      (refine rg_do rfl fun K0 hK0 => ?_; simp only [zE, op1, ev, lkp, avOf, acOf, ev, reduceCtorEq, reduceEqDiff, reduceAdd, reduceLeDiff, reduceLT, reduceMul, reduceSub, Try.td28, Mly.av]; (repeat refine And.intro (by first | omega | assumption | exact rfl) ?_); (first | refine hK0 _ ?_ | refine Or.inl (hK0 _ ?_)); clear hK0 K0; simp only [put, app, setAll, trOf, zE, zS, reduceAdd])
      (refine rg_do rfl fun K0 hK0 => ?_; simp only [zE, op1, ev, lkp, avOf, acOf, ev, reduceCtorEq, reduceEqDiff, reduceAdd, reduceLeDiff, reduceLT, reduceMul, reduceSub, Try.td3, Mly.av]; (repeat refine And.intro (by first | omega | assumption | exact rfl) ?_); (first | refine hK0 _ ?_ | refine Or.inl (hK0 _ ?_)); clear hK0 K0; simp only [put, app, setAll, trOf, zE, zS, reduceAdd])
      (refine rg_do rfl fun K0 hK0 => ?_; simp only [zE, op1, ev, lkp, avOf, acOf, opBin, arith, inK_i64, eqACs, eqAC, reduceCtorEq, reduceEqDiff, reduceAdd, reduceLeDiff, reduceLT, reduceMul, reduceSub, Try.td3, Try.td4, Mly.av]; (repeat refine And.intro (by first | omega | assumption | exact rfl) ?_); (first | refine hK0 _ ?_ | refine Or.inl (hK0 _ ?_)); clear hK0 K0; simp only [put, app, setAll, trOf, zE, zS, reduceAdd])
      (refine rg_step rfl fun K0 hK0 => ?_; simp only [zE, op1, ev, lkp, avOf, acOf, opPick, reduceCtorEq, reduceEqDiff, reduceAdd, reduceLeDiff, reduceLT, reduceMul, reduceSub, Try.td4, Mly.av]; (repeat refine And.intro (by first | omega | assumption | exact rfl) ?_); (first | refine hK0 _ ?_ | refine Or.inl (hK0 _ ?_)); clear hK0 K0; simp only [put, app, setAll, trOf, zE, zS, reduceAdd])
      refine rg_nil ?_
      refine ⟨by simp only [keepEnv, lkp, zE, reduceCtorEq, reduceEqDiff, argEnv, reduceAdd]; exact rfl, rfl, ?_, rfl⟩; (repeat refine keep_cons rfl ?_); exact keep_m (by exact rfl) hq10
    case b10 => exact tle_of (by first | rfl | (simp [tleB]; done) | decide)
    simp only [join_or, join_and]
    (refine rg_step rfl fun K0 hK0 => ?_; simp only [zE, op1, ev, lkp, avOf, acOf, ev, reduceCtorEq, reduceEqDiff, reduceAdd, reduceLeDiff, reduceLT, reduceMul, reduceSub, Try.td4, Mly.av]; (repeat refine And.intro (by first | omega | assumption | exact rfl) ?_); (first | refine hK0 _ ?_ | refine Or.inl (hK0 _ ?_)); clear hK0 K0; simp only [put, app, setAll, trOf, zE, zS, reduceAdd])
    refine' rg_join_n (want := true) 1 rfl (m := 42) (by simp only [keepEnv, lkp, zE, reduceCtorEq, reduceEqDiff, argEnv, reduceAdd]; exact rfl) (by kernel_rfl) rfl rfl rfl rfl rfl (fun hg11 => ?a11) ?b11 ?c11
    case a11 =>
      have hq11 := hg11; (try simp only [zB, reduceCtorEq] at hg11); simp only [List.take_succ_cons, List.take_zero, List.cons_append, List.nil_append]
      refine rg_do rfl fun K0 hK0 => ?_
      refine op_call (h := call_of_pure awake38_c) rfl rfl (by first | exact rfl | (simp only [ev, keepEnv, lkp, zE, reduceCtorEq, reduceEqDiff, argEnv, reduceAdd]; exact rfl)) (by simp only [zE, zG, op1, ev, lkp, avOf, acOf, cellsAV, acs, capAV, mv1, mvC, Ty.dflt, reduceCtorEq, reduceEqDiff, reduceAdd, reduceLeDiff, reduceLT, reduceMul, reduceSub, Mly.av]) ?_
      refine hK0 _ ?_; clear hK0 K0; simp only [put, app, setAll, trOf, zE, zS, reduceAdd]
      (refine rg_step rfl fun K0 hK0 => ?_; simp only [zE, op1, ev, lkp, avOf, acOf, opPick, reduceCtorEq, reduceEqDiff, reduceAdd, reduceLeDiff, reduceLT, reduceMul, reduceSub, Try.td4, Mly.av]; (repeat refine And.intro (by first | omega | assumption | exact rfl) ?_); (first | refine hK0 _ ?_ | refine Or.inl (hK0 _ ?_)); clear hK0 K0; simp only [put, app, setAll, trOf, zE, zS, reduceAdd])
      refine rg_nil ?_
      refine ⟨by simp only [keepEnv, lkp, zE, reduceCtorEq, reduceEqDiff, argEnv, reduceAdd]; exact rfl, rfl, ?_, rfl⟩; (repeat refine keep_cons rfl ?_); exact keep_m (by exact rfl) hq11
    case b11 => exact tle_of (by first | rfl | (simp [tleB]; done) | decide)
    simp only [join_or, join_and]
    (refine rg_step rfl fun K0 hK0 => ?_; simp only [zE, op1, ev, lkp, avOf, acOf, ev, reduceCtorEq, reduceEqDiff, reduceAdd, reduceLeDiff, reduceLT, reduceMul, reduceSub, Try.td4, Mly.av]; (repeat refine And.intro (by first | omega | assumption | exact rfl) ?_); (first | refine hK0 _ ?_ | refine Or.inl (hK0 _ ?_)); clear hK0 K0; simp only [put, app, setAll, trOf, zE, zS, reduceAdd])
    refine rg_nil ?_
    refine hK8 _ ?_; clear hK8; refine awp_keep [0, 1, 2, 4, 5, 6, 7, 8, 9, 10, 13] ?_; simp only [keepEnv, lkp, zE, reduceCtorEq, reduceEqDiff, argEnv, reduceAdd]
    refine awp_ret ?_
    refine ⟨by first | exact .inl rfl | exact .inr rfl, _, rfl, ?_⟩; simp only [fzV, fz1, fzC, List.map_cons, List.map_nil, keepEnv, lkp, zE, reduceCtorEq, reduceEqDiff, argEnv, reduceAdd, Mly.av]
    refine VLE.of_eq ?_
    first | rfl | (refine congrArg (fun b => AV.one (AC.bool b)) ?_; simp_all)
end Go.Proofs.Ytceafldjjedhcaa
