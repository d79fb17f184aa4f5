/- Contracts of functions of this seat, each out of a walk through its code, and plain facts on what they compute. Conditions: those that each theorem names. -/
import Derived.Test.YtceafldjjedhcaaW03
set_option linter.unusedSimpArgs false
set_option linter.unusedVariables false
namespace Go.AV
open Nat (reduceEqDiff reduceAdd reduceLeDiff reduceLT reduceMul reduceSub)
open List (set_cons_zero set_cons_succ)
/-plain-/
/-! ### numbers of classes: an equivalence, and the list that a least member gives -/
structure EQT (T : Nat → Nat → Bool) (n : Nat) : Prop where
  rf : ∀ a, a < n → T a a = true
  sy : ∀ a b, a < n → b < n → T a b = true → T b a = true
  tr : ∀ a b c, a < n → b < n → c < n → T a b = true → T b c = true → T a c = true
theorem nmS_congr {T U : Nat → Nat → Bool} : ∀ c, (∀ d q, d < q → q < c → T d q = U d q) → nmS T c = nmS U c
  | 0, _ => rfl
  | c + 1, h => by
    have ih := nmS_congr (T := T) (U := U) c fun d q h1 h2 => h d q h1 (by omega)
    have hr := (nmS_rng U c).2.2
    have he : idxB (fun d => T d.toNat c) (nmS T c).2 = idxB (fun d => U d.toNat c) (nmS U c).2 := by
      rw [ih]
      have : ∀ xs : List Int, (∀ x, x ∈ xs → 0 ≤ x ∧ x < (c : Int)) → xs.findIdx? (fun d => T d.toNat c) = xs.findIdx? (fun d => U d.toNat c) := by
        intro xs
        induction xs with
        | nil => intro _; rfl
        | cons y ys ihy =>
          intro hy
          have h1 := hy y (by simp)
          rw [List.findIdx?_cons, List.findIdx?_cons, ihy (fun x hx => hy x (by simp [hx])), h y.toNat c (by omega) (by omega)]
      unfold idxB
      rw [this _ hr]
    show (if _ then _ else _) = (if _ then _ else _)
    rw [he, ih]
structure NMP (T : Nat → Nat → Bool) (c : Nat) : Prop where
  at_ : ∀ q, q < c → 0 ≤ (nmS T c).1.getD q 0 ∧ (nmS T c).1.getD q 0 < (nmS T c).2.length ∧ T ((nmS T c).2.getD ((nmS T c).1.getD q 0).toNat 0).toNat q = true
  ap : ∀ x y, x < y → y < (nmS T c).2.length → T ((nmS T c).2.getD x 0).toNat ((nmS T c).2.getD y 0).toNat = false
theorem getD_left {xs ys : List Int} {i : Nat} (h : i < xs.length) : (xs ++ ys).getD i 0 = xs.getD i 0 := by simp [List.getD, List.getElem?_append_left h]
theorem getD_end {xs : List Int} {x : Int} {i : Nat} (h : i = xs.length) : (xs ++ [x]).getD i 0 = x := by subst h; simp [List.getD]
theorem idxB_hit {p : Int → Bool} {xs : List Int} (h : 0 ≤ idxB p xs) : idxB p xs < xs.length ∧ p (xs.getD (idxB p xs).toNat 0) = true ∧ ∀ q, q < (idxB p xs).toNat → p (xs.getD q 0) = false := by
  unfold idxB at h ⊢
  cases hf : xs.findIdx? p with
  | none => rw [hf] at h; simp at h
  | some k =>
    obtain ⟨h1, h2, h3⟩ := List.findIdx?_eq_some_iff_getElem.1 hf
    refine ⟨by simpa using h1, by simpa [List.getD, h1] using h2, fun q hq => ?_⟩
    have hq' : q < k := by simpa using hq
    have := h3 q hq'
    simpa [List.getD, Nat.lt_trans hq' h1] using this
theorem idxB_miss {p : Int → Bool} {xs : List Int} (h : idxB p xs < 0) : ∀ q, q < xs.length → p (xs.getD q 0) = false := by
  intro q hq
  unfold idxB at h
  cases hf : xs.findIdx? p with
  | some k => rw [hf] at h; simp at h; omega
  | none =>
    have := List.findIdx?_eq_none_iff.1 hf (xs.getD q 0) (getD_mem hq)
    simpa using this
theorem nmp {T : Nat → Nat → Bool} {n : Nat} (hT : EQT T n) : ∀ c, c ≤ n → NMP T c
  | 0, _ => ⟨fun q h => by omega, fun x y _ h => by simp [nmS] at h⟩
  | c + 1, hc => by
    have ih := nmp hT c (by omega)
    obtain ⟨r1, r2, r3⟩ := nmS_rng T c
    by_cases h : idxB (fun d => T d.toNat c) (nmS T c).2 < 0
    · have hm := idxB_miss h
      rw [show NMP T (c + 1) = NMP T (c + 1) from rfl]
      refine ⟨fun q hq => ?_, fun x y hxy hy => ?_⟩
      · rw [nmS_new h]
        simp only [List.length_append, List.length_cons, List.length_nil]
        by_cases e : q = c
        · rw [e, getD_end r1.symm, getD_end (by omega)]
          exact ⟨by omega, by omega, by simpa using hT.rf c (by omega)⟩
        · have := ih.at_ q (by omega)
          rw [getD_left (by omega), getD_left (by omega)]
          exact ⟨this.1, by omega, this.2.2⟩
      · rw [nmS_new h] at hy ⊢
        simp only [List.length_append, List.length_cons, List.length_nil] at hy
        by_cases e : y = (nmS T c).2.length
        · rw [getD_end e, getD_left (by omega)]
          simpa using hm x (by omega)
        · rw [getD_left (by omega), getD_left (by omega)]
          exact ih.ap x y hxy (by omega)
    · have hh := idxB_hit (p := fun d => T d.toNat c) (xs := (nmS T c).2) (by omega)
      refine ⟨fun q hq => ?_, fun x y hxy hy => ?_⟩
      · rw [nmS_old h]
        dsimp only
        by_cases e : q = c
        · rw [e, getD_end r1.symm]
          exact ⟨by omega, hh.1, hh.2.1⟩
        · rw [getD_left (by omega)]
          exact ih.at_ q (by omega)
      · rw [nmS_old h] at hy ⊢
        exact ih.ap x y hxy hy
theorem nm_old {T : Nat → Nat → Bool} {n c q : Nat} (hT : EQT T n) (hc : c < n) (hq : q < c) (h : T q c = true) : idxB (fun d => T d.toNat c) (nmS T c).2 = (nmS T c).1.getD q 0 := by
  have hp := nmp hT c (by omega)
  obtain ⟨r1, r2, r3⟩ := nmS_rng T c
  obtain ⟨a1, a2, a3⟩ := hp.at_ q hq
  have hm := r3 _ (getD_mem (w := (nmS T c).2) (i := ((nmS T c).1.getD q 0).toNat) (by omega))
  have h1 := hT.tr _ q c (by omega) (by omega) hc a3 h
  have := idxB_at (p := fun d => T d.toNat c) (xs := (nmS T c).2) (k := ((nmS T c).1.getD q 0).toNat) (by omega) (fun x hx => ?_) h1
  · rw [this]; omega
  · have hx3 := r3 _ (getD_mem (w := (nmS T c).2) (i := x) (by omega))
    have h2 := hp.ap x _ hx (by omega)
    cases hc2 : T ((nmS T c).2.getD x 0).toNat c with
    | false => rfl
    | true =>
      have := hT.tr _ c _ (by omega) hc (by omega) hc2 (hT.sy _ _ (by omega) hc h1)
      rw [h2] at this; cases this
theorem nm_new {T : Nat → Nat → Bool} {c : Nat} (h : ∀ q, q < c → T q c = false) : idxB (fun d => T d.toNat c) (nmS T c).2 = -1 := by
  obtain ⟨r1, r2, r3⟩ := nmS_rng T c
  refine idxB_none fun x hx => ?_
  have hx3 := r3 _ (getD_mem hx)
  exact h _ (by omega)
theorem cN_app {xs : List Int} {x : Int} : ∀ {k : Nat}, k ≤ xs.length → cN (xs ++ [x]) k = cN xs k
  | 0, _ => rfl
  | k + 1, h => by
    simp only [cN]
    rw [cN_app (k := k) (by omega), getD_left (by omega)]
theorem nm_cN (T : Nat → Nat → Bool) : ∀ c, cN (nmS T c).1 c = (nmS T c).2.length ∧ ∀ k, k < c → cBad (nmS T c).1 k = false
  | 0 => ⟨rfl, fun k h => by omega⟩
  | c + 1 => by
    obtain ⟨i1, i2⟩ := nm_cN T c
    obtain ⟨r1, r2, r3⟩ := nmS_rng T c
    have key : ∀ x : Int, 0 ≤ x → x ≤ (nmS T c).2.length → ∀ k, k < c + 1 → cBad ((nmS T c).1 ++ [x]) k = false := by
      intro x h0 h1 k hk
      by_cases e : k = c
      · subst e
        refine cBad_no (by rw [getD_end r1.symm]; exact h0) (by rw [getD_end r1.symm, cN_app (by omega), i1]; exact h1)
      · have := i2 k (by omega)
        unfold cBad at this ⊢
        rw [getD_left (by omega), cN_app (by omega)]; exact this
    by_cases h : idxB (fun d => T d.toNat c) (nmS T c).2 < 0
    · rw [nmS_new h]
      refine ⟨?_, key _ (by omega) (by omega)⟩
      simp only [cN, List.length_append, List.length_cons, List.length_nil]
      rw [cN_app (by omega), getD_end r1.symm, i1]; omega
    · have hb := idxB_lt (fun d => T d.toNat c) (nmS T c).2
      rw [nmS_old h]
      refine ⟨?_, key _ (by omega) (by omega)⟩
      simp only [cN]
      rw [cN_app (by omega), getD_end r1.symm, i1]; omega
theorem nm_cnt (T : Nat → Nat → Bool) {n : Nat} (h1 : 1 ≤ n) (h2 : n ≤ 64) : cntE (nmS T n).1 = 0 ∧ cntK (nmS T n).1 = (nmS T n).2.length := by
  obtain ⟨r1, _, _⟩ := nmS_rng T n
  obtain ⟨i1, i2⟩ := nm_cN T n
  have h0 : cntE (nmS T n).1 = 0 := cntE_ok (by omega) fun k hk => i2 k (by omega)
  refine ⟨h0, ?_⟩
  unfold cntK
  rw [if_pos h0, r1, i1]
def eqL (l : List Int) (d c : Nat) : Bool := decide (l.getD d 0 = l.getD c 0)
theorem eqL_eqt (l : List Int) (n : Nat) : EQT (eqL l) n :=
  ⟨fun a _ => by simp [eqL], fun a b _ _ h => by simp only [eqL, decide_eq_true_eq] at h ⊢; exact h.symm, fun a b c _ _ _ h g => by simp only [eqL, decide_eq_true_eq] at h g ⊢; exact h.trans g⟩
/-- The inner loop of the numbering. -/
def NKP (l : List Int) (i j : Nat) (k : Int) : Prop := (k = ((nmS (eqL l) i).2.length : Int) ∧ ∀ q, q < j → ¬ l.getD q 0 = l.getD i 0) ∨ ∃ q, q < j ∧ l.getD q 0 = l.getD i 0 ∧ k = (nmS (eqL l) i).1.getD q 0
theorem nkp_zero (l : List Int) (i : Nat) : NKP l i 0 ((nmS (eqL l) i).2.length : Int) := .inl ⟨rfl, fun q h => by omega⟩
theorem nkp_hit {l : List Int} {i j : Nat} (h : l.getD j 0 = l.getD i 0) : NKP l i (j + 1) ((nmS (eqL l) i).1.getD j 0) := .inr ⟨j, by omega, h, rfl⟩
theorem nkp_miss {l : List Int} {i j : Nat} {k : Int} (h0 : NKP l i j k) (h : ¬ l.getD j 0 = l.getD i 0) : NKP l i (j + 1) k := by
  rcases h0 with ⟨h1, h2⟩ | ⟨q, h1, h2, h3⟩
  · refine .inl ⟨h1, fun q hq => ?_⟩
    by_cases e : q = j
    · rw [e]; exact h
    · exact h2 q (by omega)
  · exact .inr ⟨q, by omega, h2, h3⟩
theorem nkp_end {l : List Int} {i : Nat} {k : Int} (hi : i < l.length) (h : NKP l i i k) :
    (k = ((nmS (eqL l) i).2.length : Int) ∧ nmS (eqL l) (i + 1) = ((nmS (eqL l) i).1 ++ [k], (nmS (eqL l) i).2 ++ [(i : Int)])) ∨ (¬ k = ((nmS (eqL l) i).2.length : Int) ∧ nmS (eqL l) (i + 1) = ((nmS (eqL l) i).1 ++ [k], (nmS (eqL l) i).2)) := by
  rcases h with ⟨h1, h2⟩ | ⟨q, h1, h2, h3⟩
  · have := nm_new (T := eqL l) (c := i) fun q hq => by simp only [eqL, decide_eq_false_iff_not]; exact h2 q hq
    refine .inl ⟨h1, ?_⟩
    rw [nmS_new (by omega), h1]
  · have he := nm_old (eqL_eqt l l.length) hi h1 (by simp only [eqL, decide_eq_true_eq]; exact h2)
    have ha := (nmp (eqL_eqt l l.length) i (by omega)).at_ q h1
    refine .inr ⟨by omega, ?_⟩
    rw [nmS_old (by omega), he, h3]
/-- The least that is held together with c. -/
def lst (T : Nat → Nat → Bool) (c : Nat) : Nat := ((List.range c).find? (T c)).getD c
def LKP (T : Nat → Nat → Bool) (c e : Nat) (k : Int) : Prop := (k = (c : Int) ∧ ∀ q, e ≤ q → q < c → T c q = false) ∨ ∃ q : Nat, e ≤ q ∧ q < c ∧ T c q = true ∧ k = (q : Int) ∧ ∀ r, e ≤ r → r < q → T c r = false
theorem lkp_top (T : Nat → Nat → Bool) (c : Nat) : LKP T c c c := .inl ⟨rfl, fun q h1 h2 => by omega⟩
theorem lkp_hit {T : Nat → Nat → Bool} {c e : Nat} (hc : e < c) (h : T c e = true) : LKP T c e (e : Int) := .inr ⟨e, Nat.le_refl _, hc, h, rfl, fun r h1 h2 => by omega⟩
theorem lkp_miss {T : Nat → Nat → Bool} {c e : Nat} {k : Int} (h0 : LKP T c (e + 1) k) (h : T c e = false) : LKP T c e k := by
  rcases h0 with ⟨h1, h2⟩ | ⟨q, h1, h2, h3, h4, h5⟩
  · refine .inl ⟨h1, fun q q1 q2 => ?_⟩
    by_cases e1 : q = e
    · rw [e1]; exact h
    · exact h2 q (by omega) q2
  · refine .inr ⟨q, by omega, h2, h3, h4, fun r r1 r2 => ?_⟩
    by_cases e1 : r = e
    · rw [e1]; exact h
    · exact h5 r (by omega) r2
theorem lkp_end {T : Nat → Nat → Bool} {c : Nat} {k : Int} (h : LKP T c 0 k) : k = (lst T c : Int) := by
  unfold lst
  rcases h with ⟨h1, h2⟩ | ⟨q, h1, h2, h3, h4, h5⟩
  · rw [find_none fun y hy => h2 y (by omega) hy]; exact h1
  · rw [find_some h2 h3 fun y hy => h5 y (by omega) hy]; exact h4
theorem lst_spec {T : Nat → Nat → Bool} {n c : Nat} (hT : EQT T n) (hc : c < n) : lst T c ≤ c ∧ T c (lst T c) = true ∧ ∀ r, r < lst T c → T c r = false := by
  unfold lst
  cases hf : (List.range c).find? (T c) with
  | none =>
    have := List.find?_eq_none.1 hf
    exact ⟨Nat.le_refl _, hT.rf c hc, fun r hr => by simpa using this r (by simpa using hr)⟩
  | some q =>
    have h1 := List.find?_some hf
    have h2 : q < c := by simpa using List.mem_of_find?_eq_some hf
    refine ⟨by show q ≤ c; omega, h1, fun r hr => ?_⟩
    have hr' : r < q := hr
    cases hc2 : T c r with
    | false => rfl
    | true =>
      have h3 := (List.find?_range_eq_some.1 hf).2.2 r hr'
      rw [hc2] at h3; cases h3
theorem lst_iff {T : Nat → Nat → Bool} {n c d : Nat} (hT : EQT T n) (hc : c < n) (hd : d < n) : lst T d = lst T c ↔ T d c = true := by
  obtain ⟨c1, c2, c3⟩ := lst_spec hT hc
  obtain ⟨d1, d2, d3⟩ := lst_spec hT hd
  constructor
  · intro e
    rw [e] at d2
    exact hT.tr d _ c hd (by omega) hc d2 (hT.sy c _ hc (by omega) c2)
  · intro h
    have h1 := hT.tr c d _ hc hd (by omega) (hT.sy d c hd hc h) d2
    have h2 := hT.tr d c _ hd hc (by omega) h c2
    rcases Nat.lt_trichotomy (lst T d) (lst T c) with hh | hh | hh
    · rw [c3 _ hh] at h1; cases h1
    · exact hh
    · rw [d3 _ hh] at h2; cases h2
theorem togB_iff {m : Mly} {c d : Nat} : togB m c d = true ↔ ∀ k, k < (fstX m.exR).length → agrS m ((fstX m.exR).getD k 0) c d = true := by
  unfold togB
  constructor
  · intro h k hk
    have h1 : idxB (fun s => !agrS m s c d) (fstX m.exR) < 0 := by
      have : ¬ 0 ≤ idxB (fun s => !agrS m s c d) (fstX m.exR) := by simpa using h
      omega
    simpa using idxB_miss h1 k hk
  · intro h
    rw [idxB_none fun q hq => by rw [h q hq]; rfl]; rfl
theorem agr_iff {m : Mly} {s : Int} {c d : Nat} : agrS m s c d = true ↔ m.out s c = m.out s d ∧ m.eqc.getD (m.nxt s c).toNat 0 = m.eqc.getD (m.nxt s d).toNat 0 := by simp only [agrS, Bool.and_eq_true, decide_eq_true_eq]
theorem togB_eqt (m : Mly) (n : Nat) : EQT (togB m) n where
  rf a _ := togB_iff.2 fun k _ => agr_iff.2 ⟨rfl, rfl⟩
  sy a b _ _ h := togB_iff.2 fun k hk => by have := agr_iff.1 (togB_iff.1 h k hk); exact agr_iff.2 ⟨this.1.symm, this.2.symm⟩
  tr a b c _ _ _ h g := togB_iff.2 fun k hk => by
    have h1 := agr_iff.1 (togB_iff.1 h k hk); have h2 := agr_iff.1 (togB_iff.1 g k hk); exact agr_iff.2 ⟨h1.1.trans h2.1, h1.2.trans h2.2⟩
def lsL (T : Nat → Nat → Bool) (n : Nat) : List Int := (List.range n).map fun c => (lst T c : Int)
theorem lsL_succ (T : Nat → Nat → Bool) (n : Nat) : lsL T (n + 1) = lsL T n ++ [(lst T n : Int)] := by simp [lsL, List.range_succ]
theorem lsL_len (T : Nat → Nat → Bool) (n : Nat) : (lsL T n).length = n := by simp [lsL]
theorem lsL_at (T : Nat → Nat → Bool) {n c : Nat} (h : c < n) : (lsL T n).getD c 0 = (lst T c : Int) := by simp [lsL, List.getD, h]
theorem nm_lst {T : Nat → Nat → Bool} {n : Nat} (hT : EQT T n) : nmS (eqL (lsL T n)) n = nmS T n :=
  nmS_congr n fun d q h1 h2 => by
    unfold eqL
    rw [lsL_at T (by omega), lsL_at T (by omega)]
    have hi := lst_iff hT (c := q) (d := d) h2 (by omega)
    cases hc : T d q with
    | true => rw [hi.2 hc]; exact decide_eq_true rfl
    | false =>
      refine decide_eq_false fun hh => ?_
      rw [hi.1 (by omega)] at hc; cases hc
end Go.AV
namespace Go.AV
open Nat (reduceEqDiff reduceAdd reduceLeDiff reduceLT reduceMul reduceSub)
open List (set_cons_zero set_cons_succ)
/-plain-/
theorem nm_iff {T : Nat → Nat → Bool} {n c d : Nat} (hT : EQT T n) (hc : c < n) (hd : d < n) : (nmS T n).1.getD c 0 = (nmS T n).1.getD d 0 ↔ T c d = true := by
  have hp := nmp hT n (Nat.le_refl _)
  obtain ⟨r1, r2, r3⟩ := nmS_rng T n
  obtain ⟨c1, c2, c3⟩ := hp.at_ c hc
  obtain ⟨d1, d2, d3⟩ := hp.at_ d hd
  have hmc := r3 _ (getD_mem (w := (nmS T n).2) (i := ((nmS T n).1.getD c 0).toNat) (by omega))
  have hmd := r3 _ (getD_mem (w := (nmS T n).2) (i := ((nmS T n).1.getD d 0).toNat) (by omega))
  constructor
  · intro e
    rw [← e] at d3
    exact hT.tr c _ d hc (by omega) hd (hT.sy _ c (by omega) hc c3) d3
  · intro h
    have h1 := hT.tr _ c d (by omega) hc hd c3 h
    have h2 := hT.tr _ d _ (by omega) hd (by omega) h1 (hT.sy _ d (by omega) hd d3)
    rcases Nat.lt_trichotomy ((nmS T n).1.getD c 0).toNat ((nmS T n).1.getD d 0).toNat with hh | hh | hh
    · have := hp.ap _ _ hh (by omega)
      rw [h2] at this; cases this
    · omega
    · have h3 := hT.sy _ _ (by omega) (by omega) h2
      have := hp.ap _ _ hh (by omega)
      rw [h3] at this; cases this
structure RUN (m : Mly) : Prop where
  len : (runLm m).length = m.inp.toNat
  ce : cntE (runLm m) = 0
  ck : cntK (runLm m) = runNm m
  eq : ∀ c d : Nat, c < m.inp.toNat → d < m.inp.toNat → ((runLm m).getD c 0 = (runLm m).getD d 0 ↔ togB m c d = true)
  ch : chkE m (runLm m) = 0
  no : stpB m (runLm m) = false
theorem fin_none {m : Mly} {cl : List Int} (hk : COK m cl) (h : ∀ c d : Nat, c < m.inp.toNat → d < m.inp.toNat → cl.getD c 0 = cl.getD d 0 → togB m c d = true) : stpB m cl = false := by
  have hlen := hk.len
  unfold stpB
  split
  · cases hf : finI m cl with
    | none => rfl
    | some p =>
      exfalso
      obtain ⟨⟨p1, p2, p3⟩, p4, p5⟩ := finI_spec hf
      unfold parS at p5
      simp only [Bool.and_eq_true, Bool.not_eq_true', decide_eq_true_eq] at p5
      have h1 := togB_iff.1 (h p.2.1 p.2.2 (by omega) (by omega) p5.1) p.1 (by rw [fstX_len]; exact p1)
      rw [fstX_at p1, p5.2] at h1
      cases h1
  · rfl
theorem runs {m : Mly} (hm : MOK m) : RUN m := by
  have hi1 := hm.i1; have hi2 := hm.i2
  have hv := validE_of hm
  have eL : runLm m = (nmS (togB m) m.inp.toNat).1 := by unfold runLm; rw [if_pos hv]
  have eN : runNm m = ((nmS (togB m) m.inp.toNat).2.length : Int) := by unfold runNm; rw [if_pos hv]
  have hc := nm_cnt (togB m) (n := m.inp.toNat) (by omega) (by omega)
  have hr := nmS_rng (togB m) m.inp.toNat
  have hq : ∀ c d : Nat, c < m.inp.toNat → d < m.inp.toNat → ((runLm m).getD c 0 = (runLm m).getD d 0 ↔ togB m c d = true) := fun c d h1 h2 => by rw [eL]; exact nm_iff (togB_eqt m _) h1 h2
  have hl : (runLm m).length = m.inp.toNat := by rw [eL]; exact hr.1
  have hce : cntE (runLm m) = 0 := by rw [eL]; exact hc.1
  have hch : chkE m (runLm m) = 0 := by
    unfold chkE
    rw [if_neg (by simp [hv]), if_neg (by simp [hce]), if_pos (by omega)]
  exact ⟨hl, hce, by rw [eL, eN]; exact hc.2, hq, hch, fin_none (cok_of hch) fun c d h1 h2 e => (hq c d h1 h2).1 e⟩
theorem run_dec {m : Mly} (h : RUN m) {c d : Nat} (hc : c < m.inp.toNat) (hd : d < m.inp.toNat) : decide ((runLm m).getD c 0 = (runLm m).getD d 0) = togB m c d := by
  have := h.eq c d hc hd
  cases ht : togB m c d with
  | true => exact decide_eq_true (this.2 ht)
  | false => exact decide_eq_false fun hh => by rw [this.1 hh] at ht; cases ht
end Go.AV
namespace Go.AV
open Nat (reduceEqDiff reduceAdd reduceLeDiff reduceLT reduceMul reduceSub)
open List (set_cons_zero set_cons_succ)
/-plain-/
/-! ### the access words, found again from the list of reached states -/
theorem foldA_pre (r : List Int) : ∀ l : List Int, ∃ k, r.foldl addS l = l ++ k := by
  induction r with
  | nil => intro l; exact ⟨[], by simp⟩
  | cons t r ih =>
    intro l
    obtain ⟨k, hk⟩ := ih (addS l t)
    by_cases h : t ∈ l
    · exact ⟨k, by rw [List.foldl_cons, hk, addS_in h]⟩
    · exact ⟨[t] ++ k, by rw [List.foldl_cons, hk, addS_out h, List.append_assoc]⟩
theorem foldA_at (r : List Int) {l : List Int} {i : Nat} (h : i < l.length) : (r.foldl addS l).getD i 0 = l.getD i 0 := by
  obtain ⟨k, hk⟩ := foldA_pre r l
  rw [hk]; simp [List.getD, List.getElem?_append_left h]
theorem rowX_mono (m : Mly) (e : S2) (l : List S2) {y : Nat} : ∀ {z : Nat}, y ≤ z → ∃ k, rowX m e l z = rowX m e l y ++ k
  | 0, h => by
    have : y = 0 := by omega
    subst this; exact ⟨[], by simp⟩
  | z + 1, h => by
    by_cases e1 : y = z + 1
    · subst e1; exact ⟨[], by simp⟩
    · obtain ⟨k, hk⟩ := rowX_mono m e l (y := y) (z := z) (by omega)
      obtain ⟨k2, hk2⟩ := stX_pre m e (rowX m e l z) z
      exact ⟨k ++ k2, by rw [rowX_succ, hk2, hk, List.append_assoc]⟩
theorem acc_pre {m : Mly} {f i : Nat} {l : List S2} (hx : exF m (f + 1) i l = m.exR) (hi : i < l.length) {y : Nat} (hy : y ≤ m.inp.toNat) : ∃ k, m.exR = rowX m (l.getD i eX0) l y ++ k := by
  rw [← hx, exF_step m f i l hi]
  obtain ⟨k1, h1⟩ := exF_pre m f (i + 1) (rowX m (l.getD i eX0) l m.inp.toNat)
  obtain ⟨k2, h2⟩ := rowX_mono m (l.getD i eX0) l hy
  exact ⟨k2 ++ k1, by rw [h1, h2, List.append_assoc]⟩
theorem acc_iff {m : Mly} (hm : MOK m) {f i : Nat} {l : List S2} (hx : exF m (f + 1) i l = m.exR) (hi : i < l.length) {x : Nat} (hxl : x < m.inp.toNat) :
    (m.row (l.getD i eX0).1).getD x 0 ∉ fstX (rowX m (l.getD i eX0) l x) ↔ ((rowX m (l.getD i eX0) l x).length < m.reach.length ∧ (m.row (l.getD i eX0).1).getD x 0 = m.reach.getD (rowX m (l.getD i eX0) l x).length 0) := by
  have hnd : (fstX m.exR).Nodup := (wfx_exR hm).rs.nd
  rw [← fst_exR hm]
  constructor
  · intro hn
    obtain ⟨k, hk⟩ := acc_pre hx hi (y := x + 1) (by omega)
    rw [rowX_succ, stX, if_neg hn] at hk
    rw [hk]
    refine ⟨by rw [fstX_len]; simp only [List.length_append, List.length_cons]; omega, ?_⟩
    simp [fstX, List.getD]
  · rintro ⟨h1, h2⟩ hn
    obtain ⟨k, hk⟩ := acc_pre hx hi (y := x) (by omega)
    rw [hk] at hnd h1 h2
    have e : fstX (rowX m (l.getD i eX0) l x ++ k) = fstX (rowX m (l.getD i eX0) l x) ++ fstX k := by simp [fstX]
    rw [e] at hnd h1 h2
    have hk1 : 0 < (fstX k).length := by rw [List.length_append, fstX_len] at h1; omega
    have h3 : (fstX (rowX m (l.getD i eX0) l x) ++ fstX k).getD (rowX m (l.getD i eX0) l x).length 0 = (fstX k).getD 0 0 := by
      rw [← fstX_len, List.getD, List.getD, List.getElem?_append_right (Nat.le_refl _), Nat.sub_self]; rfl
    rw [h3] at h2
    have h4 : (fstX k).getD 0 0 ∈ fstX k := getD_mem hk1
    exact (List.nodup_append.1 hnd).2.2 _ hn _ (h2 ▸ h4) rfl
/-- The word behind two inputs that do not agree. -/
def parW (m : Mly) (s : Int) (c d : Nat) : List Int := if m.out s c = m.out s d then (seS m m (m.nxt s c) (m.nxt s d)).getD [] else []
theorem eqc_seS {m : Mly} (hm : MOK m) {s t : Int} (hs : 0 ≤ s ∧ s < m.nx.length) (ht : 0 ≤ t ∧ t < m.nx.length) : (seS m m s t).isSome = !decide (m.eqc.getD s.toNat 0 = m.eqc.getD t.toNat 0) := by
  have h1 := seS_iff hm hm rfl hs ht
  have h2 := eqc_iff hm hs.1 hs.2 ht.1 ht.2
  have h3 : seS m m s t = none ↔ m.eqc.getD s.toNat 0 = m.eqc.getD t.toNat 0 := h1.trans h2.symm
  cases hc : seS m m s t with
  | none => rw [decide_eq_true (h3.1 hc)]; rfl
  | some w =>
    have : ¬ m.eqc.getD s.toNat 0 = m.eqc.getD t.toNat 0 := fun hh => by rw [h3.2 hh] at hc; cases hc
    rw [decide_eq_false this]; rfl
end Go.AV
namespace Go.AV
open Nat (reduceEqDiff reduceAdd reduceLeDiff reduceLT reduceMul reduceSub)
open List (set_cons_zero set_cons_succ)
/-plain-/
/-! ### a witness's words: identified by the list, but told apart by the machine -/
def SYM (n : Int) (w : List Int) : Prop := ∀ a, a ∈ w → 0 ≤ a ∧ a < n
theorem sym_at {n : Int} {w : List Int} (h : SYM n w) : ∀ i : Nat, i < w.length → 0 ≤ w.getD i 0 ∧ w.getD i 0 < n := fun _ hi => h _ (getD_mem hi)
theorem sym_of {n : Int} {w : List Int} (h : ∀ i : Nat, i < w.length → 0 ≤ w.getD i 0 ∧ w.getD i 0 < n) : SYM n w := fun a ha => by
  obtain ⟨i, hi⟩ := List.getElem?_of_mem ha
  have h1 := (List.getElem?_eq_some_iff.1 hi).1
  have := h i h1
  simpa [List.getD, hi] using this
theorem sym_app {n : Int} {u v : List Int} (hu : SYM n u) (hv : SYM n v) : SYM n (u ++ v) := fun a ha => by
  rcases List.mem_append.1 ha with h | h
  · exact hu a h
  · exact hv a h
theorem sym_one {n : Int} {x : Nat} (h : (x : Int) < n) : SYM n [(x : Int)] := fun a ha => by
  have : a = (x : Int) := by simpa using ha
  omega
def AGW (m : Mly) (e : S2) : Prop := (m.go m.st e.2).1 = e.1 ∧ SYM m.inp e.2
theorem ags_st {m : Mly} {e : S2} {l : List S2} {x : Nat} (h : ∀ f, f ∈ l → AGW m f) (he : AGW m e) (hx : (x : Int) < m.inp) : ∀ f, f ∈ stX m e l x → AGW m f := by
  unfold stX
  split
  · exact h
  · intro f hf
    rcases List.mem_append.1 hf with hf | hf
    · exact h f hf
    · have e1 : f = ((m.row e.1).getD x 0, e.2 ++ [(x : Int)]) := by simpa using hf
      subst e1
      refine ⟨?_, sym_app he.2 (sym_one hx)⟩
      rw [go_append, he.1]; rfl
theorem ags_row {m : Mly} {e : S2} {l : List S2} (h : ∀ f, f ∈ l → AGW m f) (he : AGW m e) : ∀ x : Nat, (x : Int) ≤ m.inp → ∀ f, f ∈ rowX m e l x → AGW m f
  | 0, _ => by simpa [rowX] using h
  | x + 1, hx => by
    rw [rowX_succ]
    exact ags_st (ags_row h he x (by omega)) he (by omega)
theorem ags_exF {m : Mly} (hi : 0 ≤ m.inp) : ∀ (f i : Nat) (l : List S2), (∀ e, e ∈ l → AGW m e) → ∀ e, e ∈ exF m f i l → AGW m e
  | 0, _, _, h => h
  | f + 1, i, l, h => by
    simp only [exF]
    split
    · rename_i hil
      exact ags_exF hi f (i + 1) _ (ags_row h (h _ (mem_X hil)) m.inp.toNat (by omega))
    · exact h
theorem ags_exR {m : Mly} (hm : MOK m) : ∀ e, e ∈ m.exR → AGW m e := by
  have := hm.i1
  refine ags_exF (by omega) _ _ _ fun e he => ?_
  have e1 : e = (m.st, []) := by simpa using he
  subst e1
  exact ⟨rfl, fun a ha => by cases ha⟩
theorem srS_len2 {a b : Mly} (ha : MOK a) (hb : MOK b) (hi : a.inp = b.inp) {B : Nat} (hB : a.nx.length * b.nx.length ≤ B) : ∀ (f i : Nat) (l : List S3), WFS a b l → ∀ w, srS a b f i l = some w → w.length ≤ B + 1
  | 0, _, _, _, w, h => by cases h
  | f + 1, i, l, hl, w, h => by
    simp only [srS] at h
    split at h
    · rename_i hil
      have h1 := hl.wl hil
      have h2 := hl.le
      have h3 := ha.i1
      split at h
      · simp only [Option.some.injEq] at h; subst h
        rw [List.length_append]; simp only [List.length_cons, List.length_nil]; omega
      · exact srS_len2 ha hb hi hB f (i + 1) _ (hl.row ha hb hi hil a.inp.toNat (by omega)) w h
    · cases h
theorem go_one (m : Mly) (e : S2) (c : Nat) (w : List Int) (he : AGW m e) : (m.go m.st (e.2 ++ [(c : Int)] ++ w)).2 = (m.go m.st e.2).2 ++ (m.out e.1 c :: (m.go (m.nxt e.1 c) w).2) := by
  rw [List.append_assoc, go_append, he.1]
  simp only [List.cons_append, List.nil_append]
  rw [go_cons]
structure SHW (m : Mly) (cl : List Int) (u v : List Int) : Prop where
  su : SYM m.inp u
  sv : SYM m.inp v
  lu : u.length ≤ 200
  lv : v.length = u.length
  pos : 0 < u.length
  ne : (m.go m.st u).2 ≠ (m.go m.st v).2
  im : u.map (fun a => cl.getD a.toNat 0) = v.map fun a => cl.getD a.toNat 0
theorem shw {m : Mly} {cl : List Int} {p : Nat × Nat × Nat} (hk : COK m cl) (hs : m.nx.length ≤ 12) (hf : finI m cl = some p) : SHW m cl ((m.exR.getD p.1 eX0).2 ++ [(p.2.1 : Int)] ++ wTl m p) ((m.exR.getD p.1 eX0).2 ++ [(p.2.2 : Int)] ++ wTl m p) := by
  have hm := hk.ok; have hlen := hk.len
  obtain ⟨⟨p1, p2, p3⟩, p4, p5⟩ := finI_spec hf
  have hwx := wfx_exR hm
  have hat := hwx.at_ p1
  have hwl := hwx.wl _ (mem_X p1)
  have hxl := hwx.le
  have hag := ags_exR hm _ (mem_X p1)
  have hnc := hm.nr (m.exR.getD p.1 eX0).1.toNat p.2.1 (by omega) (by omega)
  have hnd := hm.nr (m.exR.getD p.1 eX0).1.toNat p.2.2 (by omega) (by omega)
  have hcl : cl.getD p.2.1 0 = cl.getD p.2.2 0 := by
    unfold parS at p5; simp only [Bool.and_eq_true, decide_eq_true_eq] at p5; exact p5.1
  have hna : agrS m (m.exR.getD p.1 eX0).1 p.2.1 p.2.2 = false := by
    unfold parS at p5; simp only [Bool.and_eq_true, Bool.not_eq_true', decide_eq_true_eq] at p5; exact p5.2
  have hT : SYM m.inp (wTl m p) ∧ (wTl m p).length ≤ 145 ∧ (m.out (m.exR.getD p.1 eX0).1 p.2.1 :: (m.go (m.nxt (m.exR.getD p.1 eX0).1 p.2.1) (wTl m p)).2) ≠ (m.out (m.exR.getD p.1 eX0).1 p.2.2 :: (m.go (m.nxt (m.exR.getD p.1 eX0).1 p.2.2) (wTl m p)).2) := by
    by_cases hO : m.out (m.exR.getD p.1 eX0).1 p.2.1 = m.out (m.exR.getD p.1 eX0).1 p.2.2
    · have e : wTl m p = (seS m m (m.nxt (m.exR.getD p.1 eX0).1 p.2.1) (m.nxt (m.exR.getD p.1 eX0).1 p.2.2)).getD [] := if_pos hO
      have hi := eqc_seS hm hnc hnd
      have hne : ¬ m.eqc.getD (m.nxt (m.exR.getD p.1 eX0).1 p.2.1).toNat 0 = m.eqc.getD (m.nxt (m.exR.getD p.1 eX0).1 p.2.2).toNat 0 := by
        intro hh
        have := agr_iff.2 ⟨hO, hh⟩
        rw [hna] at this; cases this
      have hso : (seS m m (m.nxt (m.exR.getD p.1 eX0).1 p.2.1) (m.nxt (m.exR.getD p.1 eX0).1 p.2.2)).isSome = true := by
        refine hi.trans ?_
        rw [show decide (m.eqc.getD ((m.nx.getD (m.exR.getD p.1 eX0).1.toNat []).getD p.2.1 0).toNat 0 = m.eqc.getD ((m.nx.getD (m.exR.getD p.1 eX0).1.toNat []).getD p.2.2 0).toNat 0) = false from decide_eq_false hne]; rfl
      obtain ⟨w, hw⟩ := Option.isSome_iff_exists.1 hso
      rw [e, hw]
      obtain ⟨w1, w2, w3⟩ := seS_sound hw
      refine ⟨sym_of w1, srS_len2 (B := 144) hm hm rfl (Nat.le_trans (Nat.mul_le_mul hs hs) (by omega)) _ _ _ (wfs_one hnc hnd) w hw, fun hh => w2 ?_⟩
      injection hh
    · have e : wTl m p = [] := if_neg hO
      rw [e]
      refine ⟨fun a ha => (by cases ha), Nat.zero_le _, fun hh => hO ?_⟩
      injection hh
  refine ⟨sym_app (sym_app hag.2 (sym_one (by omega))) hT.1, sym_app (sym_app hag.2 (sym_one (by omega))) hT.1, ?_, ?_, ?_, ?_, ?_⟩
  · simp only [List.length_append, List.length_cons, List.length_nil]; omega
  · simp only [List.length_append, List.length_cons, List.length_nil]
  · simp only [List.length_append, List.length_cons, List.length_nil]; omega
  · rw [go_one m _ _ _ hag, go_one m _ _ _ hag]
    intro hh
    exact hT.2.2 (List.append_cancel_left hh)
  · simp only [List.map_append, List.map_cons, List.map_nil, Int.toNat_natCast, hcl]
theorem shw_from {m : Mly} {w : List Int} (hm : MOK m) (h : SYM m.inp w) (hl : w.length ≤ 200) : fromE m m.st w = 0 ∧ fromV m m.st w = (m.go m.st w).2 := by
  have h1 := hm.s1; have h2 := hm.s2; have h3 := hm.i1; have h4 := hm.i2
  have e : fromE m m.st w = 0 := by
    unfold fromE
    rw [if_neg (by simp [validE_of hm]), if_neg (by omega)]
    exact wordE_ok h3 (by omega) ⟨by omega, sym_at h⟩
  refine ⟨e, ?_⟩
  unfold fromV
  rw [if_pos e]
theorem shw_UV {m : Mly} {cl : List Int} (hc : chkE m cl = 0) (hb : stpB m cl = true) (hs : m.nx.length ≤ 12) : SHW m cl (wU m cl) (wV m cl) := by
  have hk := cok_of hc
  unfold stpB at hb
  rw [if_pos hc] at hb
  obtain ⟨p, hp⟩ := Option.isSome_iff_exists.1 hb
  unfold wU wV
  rw [if_pos hc, if_pos hc, hp]
  exact shw hk hs hp
theorem shw_nil {m : Mly} {cl : List Int} (h : chkE m cl = 0 → stpB m cl = false) : wU m cl = [] ∧ wV m cl = [] := by
  unfold wU wV
  by_cases hc : chkE m cl = 0
  · have hb := h hc
    unfold stpB at hb
    rw [if_pos hc] at hb
    have hn : finI m cl = none := by cases hf : finI m cl with
      | none => rfl
      | some p => rw [hf] at hb; cases hb
    rw [if_pos hc, if_pos hc, hn]; exact ⟨rfl, rfl⟩
  · rw [if_neg hc, if_neg hc]; exact ⟨rfl, rfl⟩
theorem rep_at {n i : Nat} : (List.replicate n (0 : Int)).getD i 0 = 0 := by
  by_cases h : i < n
  · simp [List.getD, h]
  · simp [List.getD, Nat.le_of_not_lt h]
theorem map_take_succ {f : Int → Int} {w : List Int} {k : Nat} (h : k < w.length) : (w.map f).take k ++ [f (w.getD k 0)] = (w.map f).take (k + 1) := by
  rw [List.take_add_one]
  simp [List.getD, h]
end Go.AV
namespace Go.AV
open Nat (reduceEqDiff reduceAdd reduceLeDiff reduceLT reduceMul reduceSub)
open List (set_cons_zero set_cons_succ)
/-plain-/
/-! ### repeating Step: every step divides a class, and the end is the list of Run -/
def isN (T : Nat → Nat → Bool) (c : Nat) : Bool := (List.range c).all fun d => !T d c
theorem isN_yes {T : Nat → Nat → Bool} {c : Nat} : isN T c = true ↔ ∀ d, d < c → T d c = false := by
  unfold isN; simp [List.all_eq_true]
theorem isN_no {T : Nat → Nat → Bool} {c d : Nat} (h : d < c) (ht : T d c = true) : isN T c = false := by
  cases hc : isN T c with
  | false => rfl
  | true => rw [isN_yes.1 hc d h] at ht; cases ht
theorem nm_count {T : Nat → Nat → Bool} {n : Nat} (hT : EQT T n) : ∀ c, c ≤ n → (nmS T c).2.length = (List.range c).countP (isN T)
  | 0, _ => rfl
  | c + 1, h => by
    have ih := nm_count hT c (by omega)
    rw [List.range_succ, List.countP_append, ← ih]
    cases hc : isN T c with
    | true =>
      have := nm_new (T := T) (c := c) (isN_yes.1 hc)
      rw [nmS_new (by omega)]
      simp [hc]
    | false =>
      have : ∃ d, d < c ∧ T d c = true := by
        refine Decidable.byContradiction fun hh => ?_
        have : isN T c = true := isN_yes.2 fun d hd => by
          cases ht : T d c with
          | false => rfl
          | true => exact absurd ⟨d, hd, ht⟩ hh
        rw [hc] at this; cases this
      obtain ⟨d, hd, ht⟩ := this
      have h1 := nm_old hT (by omega) hd ht
      have h2 := ((nmp hT c (by omega)).at_ d hd).1
      rw [nmS_old (by omega)]
      simp [hc]
theorem cP_le {p q : Nat → Bool} : ∀ n, (∀ x, x < n → p x = true → q x = true) → (List.range n).countP p ≤ (List.range n).countP q
  | 0, _ => Nat.le_refl _
  | n + 1, h => by
    have ih := cP_le (p := p) (q := q) n fun x hx => h x (by omega)
    rw [List.range_succ, List.countP_append, List.countP_append]
    have : [n].countP p ≤ [n].countP q := by
      cases hp : p n with
      | false => simp [hp]
      | true => simp [hp, h n (by omega) hp]
    omega
theorem cP_lt {p q : Nat → Bool} {c : Nat} (h1 : q c = true) (h2 : p c = false) : ∀ n, (∀ x, x < n → p x = true → q x = true) → c < n → (List.range n).countP p < (List.range n).countP q
  | n + 1, h, hc => by
    rw [List.range_succ, List.countP_append, List.countP_append]
    by_cases e : c = n
    · have ih := cP_le (p := p) (q := q) n fun x hx => h x (by omega)
      subst e
      have a1 : [c].countP p = 0 := by simp [h2]
      have a2 : [c].countP q = 1 := by simp [h1]
      omega
    · have ih := cP_lt h1 h2 n (fun x hx => h x (by omega)) (by omega)
      have : [n].countP p ≤ [n].countP q := by
        cases hp : p n with
        | false => simp [hp]
        | true => simp [hp, h n (by omega) hp]
      omega
theorem lst_isN {T : Nat → Nat → Bool} {n c : Nat} (hT : EQT T n) (hc : c < n) : isN T (lst T c) = true := by
  obtain ⟨c1, c2, c3⟩ := lst_spec hT hc
  refine isN_yes.2 fun d hd => ?_
  cases ht : T d (lst T c) with
  | false => rfl
  | true =>
    have := hT.tr c _ d hc (by omega) (by omega) c2 (hT.sy d _ (by omega) (by omega) ht)
    rw [c3 d hd] at this; cases this
theorem nm_more {T U : Nat → Nat → Bool} {n a b : Nat} (hT : EQT T n) (hU : EQT U n) (hf : ∀ d c, d < n → c < n → U d c = true → T d c = true) (ha : a < n) (hb : b < n) (ht : T a b = true) (hu : U a b = false) : (nmS T n).2.length < (nmS U n).2.length := by
  rw [nm_count hT n (Nat.le_refl _), nm_count hU n (Nat.le_refl _)]
  have mono : ∀ x, x < n → isN T x = true → isN U x = true := fun x hx h => isN_yes.2 fun d hd => by
    cases hc : U d x with
    | false => rfl
    | true => have := hf d x (by omega) hx hc; rw [isN_yes.1 h d hd] at this; cases this
  obtain ⟨a1, a2, a3⟩ := lst_spec hU ha
  obtain ⟨b1, b2, b3⟩ := lst_spec hU hb
  have hne : lst U a ≠ lst U b := fun e => by
    have := (lst_iff hU hb ha).1 e; rw [hu] at this; cases this
  have ta := hf a _ ha (by omega) a2
  have tb := hf b _ hb (by omega) b2
  have tab : T (lst U a) (lst U b) = true := hT.tr _ a _ (by omega) ha (by omega) (hT.sy a _ ha (by omega) ta) (hT.tr a b _ ha hb (by omega) ht tb)
  rcases Nat.lt_or_gt_of_ne hne with hh | hh
  · exact cP_lt (c := lst U b) (lst_isN hU hb) (isN_no hh tab) n mono (by omega)
  · exact cP_lt (c := lst U a) (lst_isN hU ha) (isN_no hh (hT.sy _ _ (by omega) (by omega) tab)) n mono (by omega)
theorem cN_onto {cl : List Int} (hb : ∀ q, q < cl.length → cBad cl q = false) : ∀ k, k ≤ cl.length → ∀ v, 0 ≤ v → v < cN cl k → ∃ q, q < k ∧ cl.getD q 0 = v
  | 0, _, v, h0, h1 => by simp only [cN] at h1; omega
  | k + 1, hk, v, h0, h1 => by
    have h2 := hb k (by omega)
    simp only [cBad, Bool.or_eq_false_iff, decide_eq_false_iff_not] at h2
    simp only [cN] at h1
    by_cases e : v < cN cl k
    · obtain ⟨q, q1, q2⟩ := cN_onto hb k (by omega) v h0 e
      exact ⟨q, by omega, q2⟩
    · exact ⟨k, by omega, by omega⟩
theorem cN_up (cl : List Int) : ∀ k q, q < k → cl.getD q 0 < cN cl k
  | 0, q, h => by omega
  | k + 1, q, h => by
    simp only [cN]
    by_cases e : q = k
    · rw [e]; omega
    · have := cN_up cl k q (by omega); omega
theorem canon {cl : List Int} (hb : ∀ q, q < cl.length → cBad cl q = false) : ∀ k, k ≤ cl.length → (nmS (eqL cl) k).1 = cl.take k ∧ ((nmS (eqL cl) k).2.length : Int) = cN cl k
  | 0, _ => ⟨by simp [nmS], rfl⟩
  | k + 1, hk => by
    obtain ⟨i1, i2⟩ := canon hb k (by omega)
    have h2 := hb k (by omega)
    simp only [cBad, Bool.or_eq_false_iff, decide_eq_false_iff_not] at h2
    have ht : cl.take (k + 1) = cl.take k ++ [cl.getD k 0] := take_succ_D (by omega)
    by_cases e : cl.getD k 0 = cN cl k
    · have hn := nm_new (T := eqL cl) (c := k) fun q hq => by
        have := cN_up cl k q hq
        simp only [eqL, decide_eq_false_iff_not]; omega
      rw [nmS_new (by omega), ht, i1]
      refine ⟨by rw [i2, e], ?_⟩
      simp only [List.length_append, List.length_cons, List.length_nil, cN]; omega
    · obtain ⟨q, q1, q2⟩ := cN_onto hb k (by omega) (cl.getD k 0) (by omega) (by omega)
      have ho := nm_old (eqL_eqt cl cl.length) (c := k) (q := q) (by omega) q1 (by simp only [eqL, decide_eq_true_eq]; exact q2)
      have hq : (nmS (eqL cl) k).1.getD q 0 = cl.getD k 0 := by
        rw [i1, ← q2]; simp [List.getD, q1]
      rw [hq] at ho
      rw [nmS_old (by omega), ht, i1, ho]
      refine ⟨rfl, ?_⟩
      rw [i2]; simp only [cN]; omega
theorem cN_nn (cl : List Int) : ∀ k, 0 ≤ cN cl k
  | 0 => Int.le_refl _
  | k + 1 => by have := cN_nn cl k; simp only [cN]; omega
structure STD (m : Mly) (C : List Int) (j : Nat) : Prop where
  len : C.length = m.inp.toNat
  ce : cntE C = 0
  co : ∀ c d : Nat, c < m.inp.toNat → d < m.inp.toNat → togB m c d = true → C.getD c 0 = C.getD d 0
  ct : (j : Int) + 1 ≤ cntK C
theorem std_cok {m : Mly} (hm : MOK m) {C : List Int} {j : Nat} (h : STD m C j) : COK m C := ⟨hm, h.ce, by have := hm.i1; have := h.len; omega⟩
theorem std_zero {m : Mly} (hm : MOK m) : STD m (List.replicate m.inp.toNat 0) 0 := by
  have hi1 := hm.i1; have hi2 := hm.i2
  have hl : (List.replicate m.inp.toNat (0 : Int)).length = m.inp.toNat := List.length_replicate
  have hc : cntE (List.replicate m.inp.toNat (0 : Int)) = 0 := cntE_ok (by omega) fun k _ => cBad_no (by rw [rep_at]; omega) (by rw [rep_at]; exact cN_nn _ _)
  refine ⟨hl, hc, fun c d _ _ _ => by rw [rep_at, rep_at], ?_⟩
  unfold cntK
  rw [if_pos hc, hl]
  have := cN_up (List.replicate m.inp.toNat (0 : Int)) m.inp.toNat 0 (by omega)
  rw [rep_at] at this
  omega
theorem std_cnt {m : Mly} (hm : MOK m) {C : List Int} {j : Nat} (h : STD m C j) : cntK C = ((nmS (eqL C) C.length).2.length : Int) ∧ (nmS (eqL C) C.length).1 = C ∧ cntK C ≤ m.inp := by
  have hi1 := hm.i1
  obtain ⟨h1, h2⟩ := cntE_zero h.ce
  obtain ⟨c1, c2⟩ := canon h2 C.length (Nat.le_refl _)
  have hl := h.len
  have hcl := cN_le h2 C.length (Nat.le_refl _)
  unfold cntK
  rw [if_pos h.ce]
  exact ⟨c2.symm, by rw [c1, List.take_length], by omega⟩
theorem spl_eqt (m : Mly) (C : List Int) (p : Nat × Nat × Nat) (n : Nat) : EQT (spl m C p) n where
  rf a _ := by simp [spl, agrS]
  sy a b _ _ h := by
    simp only [spl, agrS, Bool.and_eq_true, Bool.or_eq_true, Bool.not_eq_true', decide_eq_true_eq, decide_eq_false_iff_not] at h ⊢
    obtain ⟨h1, h2⟩ := h
    refine ⟨h1.symm, ?_⟩
    rcases h2 with h2 | h2
    · exact .inl (h1 ▸ h2)
    · exact .inr ⟨h2.1.symm, h2.2.symm⟩
  tr a b c _ _ _ h g := by
    simp only [spl, agrS, Bool.and_eq_true, Bool.or_eq_true, Bool.not_eq_true', decide_eq_true_eq, decide_eq_false_iff_not] at h g ⊢
    obtain ⟨h1, h2⟩ := h
    obtain ⟨g1, g2⟩ := g
    refine ⟨h1.trans g1, ?_⟩
    rcases h2 with h2 | h2
    · exact .inl h2
    · rcases g2 with g2 | g2
      · exact .inl (by rw [h1]; exact g2)
      · exact .inr ⟨h2.1.trans g2.1, h2.2.trans g2.2⟩
theorem std_step {m : Mly} (hm : MOK m) {C : List Int} {j : Nat} (h : STD m C j) (hb : stpB m C = true) : STD m (stpL m C) (j + 1) ∧ cntK C < cntK (stpL m C) := by
  have hk := std_cok hm h
  have hi1 := hm.i1; have hi2 := hm.i2
  have hch : chkE m C = 0 := by
    unfold chkE
    rw [if_neg (by simp [validE_of hm]), if_neg (by simp [hk.ce]), if_pos hk.len]
  unfold stpB at hb
  rw [if_pos hch] at hb
  obtain ⟨p, hp⟩ := Option.isSome_iff_exists.1 hb
  have e : stpL m C = (nmS (spl m C p) m.inp.toNat).1 := by unfold stpL; rw [if_pos hch, hp]
  rw [e]
  obtain ⟨⟨p1, p2, p3⟩, p4, p5⟩ := finI_spec hp
  unfold parS at p5
  simp only [Bool.and_eq_true, Bool.not_eq_true', decide_eq_true_eq] at p5
  have hl := h.len
  have hr := nmS_rng (spl m C p) m.inp.toNat
  have hc := nm_cnt (spl m C p) (n := m.inp.toNat) (by omega) (by omega)
  obtain ⟨s1, s2, s3⟩ := std_cnt hm h
  have hmore : (nmS (eqL C) m.inp.toNat).2.length < (nmS (spl m C p) m.inp.toNat).2.length := by
    refine nm_more (a := p.2.1) (b := p.2.2) (eqL_eqt C _) (spl_eqt m C p _) (fun d c _ _ hu => ?_) (by omega) (by omega) (by simp only [eqL, decide_eq_true_eq]; exact p5.1) ?_
    · simp only [spl, Bool.and_eq_true, decide_eq_true_eq] at hu
      simp only [eqL, decide_eq_true_eq]; exact hu.1
    · unfold spl
      rw [p5.2, show decide (C.getD p.2.1 0 = C.getD p.2.1 0) = true from decide_eq_true rfl]; simp
  rw [hl] at s1
  have hlt : cntK C < cntK (nmS (spl m C p) m.inp.toNat).1 := by rw [hc.2]; omega
  refine ⟨⟨hr.1, hc.1, fun c d h1 h2 ht => ?_, by have := h.ct; omega⟩, hlt⟩
  rw [nm_iff (spl_eqt m C p _) h1 h2]
  have hq := togB_iff.1 ht p.1 (by rw [fstX_len]; exact p1)
  rw [fstX_at p1] at hq
  simp only [spl, Bool.and_eq_true, Bool.or_eq_true, decide_eq_true_eq]
  exact ⟨h.co c d h1 h2 ht, .inr hq⟩
theorem finI_none {m : Mly} {cl : List Int} (h : finI m cl = none) {i c d : Nat} (hi : i < m.exR.length) (hcd : c < d) (hd : d < cl.length) : parS m cl (m.exR.getD i eX0).1 c d = false := by
  unfold finI at h
  have h1 := List.findSome?_eq_none_iff.1 h i (by simpa using hi)
  have h2 : finC m cl (m.exR.getD i eX0).1 = none := by simpa using h1
  unfold finC at h2
  have h3 := List.findSome?_eq_none_iff.1 h2 c (by simp; omega)
  have h4 : finD m cl (m.exR.getD i eX0).1 c = none := by simpa using h3
  unfold finD at h4
  have h5 := List.find?_eq_none.1 h4 d (by simpa using hd)
  simpa [hcd] using h5
theorem std_end {m : Mly} (hm : MOK m) {C : List Int} {j : Nat} (h : STD m C j) (hb : stpB m C = false) : C = runLm m ∧ cntK C = runNm m ∧ stpL m C = C := by
  have hk := std_cok hm h
  have hi1 := hm.i1
  have hl := h.len
  have hch : chkE m C = 0 := by
    unfold chkE
    rw [if_neg (by simp [validE_of hm]), if_neg (by simp [hk.ce]), if_pos hk.len]
  unfold stpB at hb
  rw [if_pos hch] at hb
  have hn : finI m C = none := by cases hf : finI m C with
    | none => rfl
    | some p => rw [hf] at hb; cases hb
  have lt : ∀ c d : Nat, c < d → d < m.inp.toNat → C.getD c 0 = C.getD d 0 → togB m c d = true := fun c d h1 h2 e => togB_iff.2 fun k hk2 => by
    rw [fstX_len] at hk2
    have := finI_none hn (i := k) hk2 h1 (by omega)
    unfold parS at this
    rw [decide_eq_true e] at this
    rw [fstX_at hk2]
    simpa using this
  have hcon : nmS (eqL C) m.inp.toNat = nmS (togB m) m.inp.toNat := nmS_congr _ fun d q h1 h2 => by
    unfold eqL
    cases ht : togB m d q with
    | true => exact decide_eq_true (h.co d q (by omega) h2 ht)
    | false => exact decide_eq_false fun e => by rw [lt d q h1 h2 e] at ht; cases ht
  obtain ⟨s1, s2, s3⟩ := std_cnt hm h
  rw [hl] at s1 s2
  have hv := validE_of hm
  refine ⟨by unfold runLm; rw [if_pos hv, ← hcon]; exact s2.symm, by unfold runNm; rw [if_pos hv, ← hcon]; exact s1, ?_⟩
  unfold stpL
  rw [if_pos hch, hn]
theorem chk_of {m : Mly} {C : List Int} (hk : COK m C) : chkE m C = 0 := by
  unfold chkE
  rw [if_neg (by simp [validE_of hk.ok]), if_neg (by simp [hk.ce]), if_pos hk.len]
end Go.AV
namespace Go.Proofs.Ytceafldjjedhcaa
open Go Go.AV
open Nat (reduceEqDiff reduceAdd reduceLeDiff reduceLT reduceMul reduceSub)
open List (set_cons_zero set_cons_succ)
set_option maxRecDepth 100000 in
set_option maxHeartbeats 1000000 in
theorem law38s (m : Mly) : PURE Try.prog 7 [m.av] (.one (.bool true)) := by
  refine pure_of_le Try.func7 rfl (by kernel_rfl) (Nat.le_of_ble_eq_true rfl) rfl fun C hP hN hB => ?_
  replace hN : C.N = 110 := hN
  simp only [argEnv, reduceAdd]
  refine awp_seq_k fun K1 hK1 => ?_
  refine awp_reg hP hN rfl ?_
  iterate 2 (refine rg_step rfl fun K0 hK0 => ?_; simp only [zE, op1, ev, lkp, avOf, acOf, opBox, cellsAV, reduceCtorEq, reduceEqDiff, reduceAdd, reduceLeDiff, reduceLT, reduceMul, reduceSub, Try.st24, Try.td24, Try.td4, Mly.av]; (repeat refine And.intro (by first | omega | assumption | exact rfl) ?_); (first | refine hK0 _ ?_ | refine Or.inl (hK0 _ ?_)); clear hK0 K0; simp only [put, app, setAll, trOf, zE, set_cons_zero, set_cons_succ, reduceAdd])
  refine rg_nil ?_
  refine hK1 _ ?_; clear hK1; refine awp_keep [0, 1, 2] ?_; simp only [keepEnv, lkp, zE, reduceCtorEq, reduceEqDiff, argEnv, reduceAdd]
  refine awp_seq_k fun K2 hK2 => ?_
  refine awp_seq_k fun K3 hK3 => ?_
  refine awp_reg hP hN rfl ?_
  (refine rg_step rfl fun K0 hK0 => ?_; simp only [zE, op1, ev, lkp, avOf, acOf, opLoad, Nat.mul_one, readAC, isAggK, acs, Ty.dflt, zG, cellsAt, reduceCtorEq, reduceEqDiff, reduceAdd, reduceLeDiff, reduceLT, reduceMul, reduceSub, Try.st24, Try.td24, Mly.av]; (repeat refine And.intro (by first | omega | assumption | exact rfl) ?_); (first | refine hK0 _ ?_ | refine Or.inl (hK0 _ ?_)); clear hK0 K0; simp only [put, app, setAll, trOf, zE, set_cons_zero, set_cons_succ, reduceAdd])
  refine rg_step rfl fun K0 hK0 => ?_
  refine op_call (h := call_of_pure (small_c m)) rfl rfl (by first | exact rfl | (simp only [ev, keepEnv, lkp, zE, reduceCtorEq, reduceEqDiff, argEnv, reduceAdd]; exact rfl)) (by simp only [zE, zG, op1, ev, lkp, avOf, acOf, cellsAV, acs, capAV, mv1, mvC, Ty.dflt, reduceCtorEq, reduceEqDiff, reduceAdd, reduceLeDiff, reduceLT, reduceMul, reduceSub, Mly.av]) ?_
  refine hK0 _ ?_; clear hK0 K0; simp only [put, app, setAll, trOf, zE, set_cons_zero, set_cons_succ, reduceAdd]
  (refine rg_step rfl fun K0 hK0 => ?_; simp only [zE, op1, ev, lkp, avOf, acOf, opUn, reduceCtorEq, reduceEqDiff, reduceAdd, reduceLeDiff, reduceLT, reduceMul, reduceSub, Try.td4, Mly.av]; (repeat refine And.intro (by first | omega | assumption | exact rfl) ?_); (first | refine hK0 _ ?_ | refine Or.inl (hK0 _ ?_)); clear hK0 K0; simp only [put, app, setAll, trOf, zE, set_cons_zero, set_cons_succ, reduceAdd])
  (refine rg_step rfl fun K0 hK0 => ?_; simp only [zE, op1, ev, lkp, avOf, acOf, ev, reduceCtorEq, reduceEqDiff, reduceAdd, reduceLeDiff, reduceLT, reduceMul, reduceSub, Try.td4, Mly.av]; (repeat refine And.intro (by first | omega | assumption | exact rfl) ?_); (first | refine hK0 _ ?_ | refine Or.inl (hK0 _ ?_)); clear hK0 K0; simp only [put, app, setAll, trOf, zE, set_cons_zero, set_cons_succ, reduceAdd])
  refine' rg_join_n (want := false) 3 rfl (m := 20) (by simp only [keepEnv, lkp, zE, reduceCtorEq, reduceEqDiff, argEnv, reduceAdd]; exact rfl) (by kernel_rfl) rfl rfl rfl rfl rfl (fun hg4 => ?a4) ?b4 ?c4
  case a4 =>
    have hq4 := hg4; (try simp only [decide_eq_true_eq, decide_eq_false_iff_not, Bool.not_true, Bool.not_false, Bool.not_eq_true, Bool.not_eq_false, Bool.not_eq_eq_eq_not, Int.not_lt, Int.not_le, reduceCtorEq, Bool.true_eq_false, Bool.false_eq_true, ne_eq, Decidable.not_not, Bool.not_eq_true', bne_iff_ne, Bool.or_eq_true, Bool.and_eq_true, Bool.or_eq_false_iff, Bool.and_eq_false_iff] at hg4); simp only [List.take_succ_cons, List.take_zero, List.cons_append, List.nil_append]
    (refine rg_do rfl fun K0 hK0 => ?_; simp only [zE, op1, ev, lkp, avOf, acOf, opLoad, Nat.mul_one, readAC, isAggK, acs, Ty.dflt, zG, cellsAt, reduceCtorEq, reduceEqDiff, reduceAdd, reduceLeDiff, reduceLT, reduceMul, reduceSub, Try.st24, Try.td24, Mly.av]; (repeat refine And.intro (by first | omega | assumption | exact rfl) ?_); (first | refine hK0 _ ?_ | refine Or.inl (hK0 _ ?_)); clear hK0 K0; simp only [put, app, setAll, trOf, zE, set_cons_zero, set_cons_succ, reduceAdd])
    refine rg_do rfl fun K0 hK0 => ?_
    refine op_call (h := call_of_pure (rvalid_c m)) rfl rfl (by first | exact rfl | (simp only [ev, keepEnv, lkp, zE, reduceCtorEq, reduceEqDiff, argEnv, reduceAdd]; exact rfl)) (by simp only [zE, zG, op1, ev, lkp, avOf, acOf, cellsAV, acs, capAV, mv1, mvC, Ty.dflt, reduceCtorEq, reduceEqDiff, reduceAdd, reduceLeDiff, reduceLT, reduceMul, reduceSub, Mly.av]) ?_
    refine hK0 _ ?_; clear hK0 K0; simp only [put, app, setAll, trOf, zE, set_cons_zero, set_cons_succ, reduceAdd]
    (refine rg_do rfl fun K0 hK0 => ?_; simp only [zE, op1, ev, lkp, avOf, acOf, opBin, arith, inK_i64, eqACs, eqAC, reduceCtorEq, reduceEqDiff, reduceAdd, reduceLeDiff, reduceLT, reduceMul, reduceSub, Try.td3, Try.td4, Mly.av]; (repeat refine And.intro (by first | omega | assumption | exact rfl) ?_); (first | refine hK0 _ ?_ | refine Or.inl (hK0 _ ?_)); clear hK0 K0; simp only [put, app, setAll, trOf, zE, set_cons_zero, set_cons_succ, reduceAdd])
    (refine rg_step rfl fun K0 hK0 => ?_; simp only [zE, op1, ev, lkp, avOf, acOf, opPick, reduceCtorEq, reduceEqDiff, reduceAdd, reduceLeDiff, reduceLT, reduceMul, reduceSub, Try.td4, Mly.av]; (repeat refine And.intro (by first | omega | assumption | exact rfl) ?_); (first | refine hK0 _ ?_ | refine Or.inl (hK0 _ ?_)); clear hK0 K0; simp only [put, app, setAll, trOf, zE, set_cons_zero, set_cons_succ, reduceAdd])
    refine rg_nil ?_
    refine ⟨by simp only [keepEnv, lkp, zE, reduceCtorEq, reduceEqDiff, argEnv, reduceAdd]; exact rfl, rfl, ?_, rfl⟩; (repeat refine keep_cons rfl ?_); exact keep_m (by exact rfl) hq4
  case b4 => exact tle_of (by first | rfl | (simp [tleB]; done) | decide)
  simp only [join_or, join_and]
  refine rg_nil ?_
  refine hK3 _ ?_; clear hK3; refine awp_keep [0, 1, 2, 24] ?_; simp only [keepEnv, lkp, zE, reduceCtorEq, reduceEqDiff, argEnv, reduceAdd]
  refine awp_cond (by simp only [ev, keepEnv, lkp, zE, reduceCtorEq, reduceEqDiff, argEnv, reduceAdd]; exact rfl) (fun hc5 => ?_) (fun hc5 => ?_)
  · (try simp only [decide_eq_true_eq, decide_eq_false_iff_not, Bool.not_true, Bool.not_false, Bool.not_eq_true, Bool.not_eq_false, Bool.not_eq_eq_eq_not, Int.not_lt, Int.not_le, reduceCtorEq, Bool.true_eq_false, Bool.false_eq_true, ne_eq, Decidable.not_not, Bool.not_eq_true', bne_iff_ne, Bool.or_eq_true, Bool.and_eq_true, Bool.or_eq_false_iff, Bool.and_eq_false_iff] at hc5)
    refine awp_seq_k fun K6 hK6 => ?_
    refine awp_reg hP hN rfl ?_
    refine rg_step rfl fun K0 hK0 => ?_
    refine op_call (h := call_of_pure awake38_c) rfl rfl (by first | exact rfl | (simp only [ev, keepEnv, lkp, zE, reduceCtorEq, reduceEqDiff, argEnv, reduceAdd]; exact rfl)) (by simp only [zE, zG, op1, ev, lkp, avOf, acOf, cellsAV, acs, capAV, mv1, mvC, Ty.dflt, reduceCtorEq, reduceEqDiff, reduceAdd, reduceLeDiff, reduceLT, reduceMul, reduceSub, Mly.av]) ?_
    refine hK0 _ ?_; clear hK0 K0; simp only [put, app, setAll, trOf, zE, set_cons_zero, set_cons_succ, reduceAdd]
    (refine rg_step rfl fun K0 hK0 => ?_; simp only [zE, op1, ev, lkp, avOf, acOf, ev, reduceCtorEq, reduceEqDiff, reduceAdd, reduceLeDiff, reduceLT, reduceMul, reduceSub, Try.td4, Mly.av]; (repeat refine And.intro (by first | omega | assumption | exact rfl) ?_); (first | refine hK0 _ ?_ | refine Or.inl (hK0 _ ?_)); clear hK0 K0; simp only [put, app, setAll, trOf, zE, set_cons_zero, set_cons_succ, reduceAdd])
    refine rg_nil ?_
    refine hK6 _ ?_; clear hK6; refine awp_keep [0, 1, 2, 24] ?_; simp only [keepEnv, lkp, zE, reduceCtorEq, reduceEqDiff, argEnv, reduceAdd]
    refine awp_ret ?_
    refine ⟨by first | exact .inl rfl | exact .inr rfl, _, rfl, ?_⟩; simp only [fzV, fz1, fzC, List.map_cons, List.map_nil, keepEnv, lkp, zE, reduceCtorEq, reduceEqDiff, argEnv, reduceAdd, Mly.av]
    refine VLE.of_eq ?_
    first | rfl | (refine congrArg (fun b => AV.one (AC.bool b)) ?_; simp_all)
  · (try simp only [decide_eq_true_eq, decide_eq_false_iff_not, Bool.not_true, Bool.not_false, Bool.not_eq_true, Bool.not_eq_false, Bool.not_eq_eq_eq_not, Int.not_lt, Int.not_le, reduceCtorEq, Bool.true_eq_false, Bool.false_eq_true, ne_eq, Decidable.not_not, Bool.not_eq_true', bne_iff_ne, Bool.or_eq_true, Bool.and_eq_true, Bool.or_eq_false_iff, Bool.and_eq_false_iff] at hc5)
    have hv : validE m = 0 := by simp_all
    have hm := mok_of hv; have hi1 := hm.i1; have hi2 := hm.i2
    refine awp_skip ?_
    refine hK2 _ ?_; clear hK2; refine awp_keep [0, 1, 2, 24] ?_; simp only [keepEnv, lkp, zE, reduceCtorEq, reduceEqDiff, argEnv, reduceAdd]
    refine awp_seq_k fun K7 hK7 => ?_
    refine awp_reg hP hN rfl ?_
    iterate 2 (refine rg_step rfl fun K0 hK0 => ?_; simp only [zE, op1, ev, lkp, avOf, acOf, opFieldAddr, opLoad, Nat.mul_one, readAC, isAggK, acs, Ty.dflt, zG, cellsAt, reduceCtorEq, reduceEqDiff, reduceAdd, reduceLeDiff, reduceLT, reduceMul, reduceSub, Try.st24, Try.td24, Try.td3, Mly.av]; (repeat refine And.intro (by first | omega | assumption | exact rfl) ?_); (first | refine hK0 _ ?_ | refine Or.inl (hK0 _ ?_)); clear hK0 K0; simp only [put, app, setAll, trOf, zE, set_cons_zero, set_cons_succ, reduceAdd])
    (refine rg_step rfl fun K0 hK0 => ?_; simp only [zE, op1, ev, lkp, avOf, acOf, opMakeSlice, datOf, Ty.size, Ty.dflt, reduceCtorEq, reduceEqDiff, reduceAdd, reduceLeDiff, reduceLT, reduceMul, reduceSub, Try.el25, Try.td25, Mly.av]; (repeat refine And.intro (by first | omega | assumption | exact rfl) ?_); refine Or.inr (Or.inr (hK0 _ ?_)); clear hK0 K0; simp only [put, app, setAll, trOf, zE, set_cons_zero, set_cons_succ, reduceAdd])
    (refine rg_step rfl fun K0 hK0 => ?_; simp only [zE, op1, ev, lkp, avOf, acOf, ev, reduceCtorEq, reduceEqDiff, reduceAdd, reduceLeDiff, reduceLT, reduceMul, reduceSub, Try.el25, Try.td25, Mly.av]; (repeat refine And.intro (by first | omega | assumption | exact rfl) ?_); (first | refine hK0 _ ?_ | refine Or.inl (hK0 _ ?_)); clear hK0 K0; simp only [put, app, setAll, trOf, zE, set_cons_zero, set_cons_succ, reduceAdd])
    refine rg_nil ?_
    refine hK7 _ ?_; clear hK7; refine awp_keep [0, 1, 2, 3, 24] ?_; simp only [keepEnv, lkp, zE, reduceCtorEq, reduceEqDiff, argEnv, reduceAdd]
    refine awp_seq_k fun K8 hK8 => ?_
    refine awp_reg hP hN rfl ?_
    (refine rg_step rfl fun K0 hK0 => ?_; simp only [zE, op1, ev, lkp, avOf, acOf, opLoad, Nat.mul_one, readAC, isAggK, acs, Ty.dflt, zG, cellsAt, reduceCtorEq, reduceEqDiff, reduceAdd, reduceLeDiff, reduceLT, reduceMul, reduceSub, Try.st24, Try.td24, Mly.av]; (repeat refine And.intro (by first | omega | assumption | exact rfl) ?_); (first | refine hK0 _ ?_ | refine Or.inl (hK0 _ ?_)); clear hK0 K0; simp only [put, app, setAll, trOf, zE, set_cons_zero, set_cons_succ, reduceAdd])
    refine rg_step rfl fun K0 hK0 => ?_
    refine op_call (h := call_of_pure (run_c2 m)) rfl rfl (by first | exact rfl | (simp only [ev, keepEnv, lkp, zE, reduceCtorEq, reduceEqDiff, argEnv, reduceAdd]; exact rfl)) (by simp only [zE, zG, op1, ev, lkp, avOf, acOf, cellsAV, acs, capAV, mv1, mvC, Ty.dflt, reduceCtorEq, reduceEqDiff, reduceAdd, reduceLeDiff, reduceLT, reduceMul, reduceSub, Mly.av]) ?_
    refine hK0 _ ?_; clear hK0 K0; simp only [put, app, setAll, trOf, zE, set_cons_zero, set_cons_succ, reduceAdd]
    iterate 7 (refine rg_step rfl fun K0 hK0 => ?_; simp only [zE, op1, ev, lkp, avOf, acOf, opExtract, reduceCtorEq, reduceEqDiff, reduceAdd, reduceLeDiff, reduceLT, reduceMul, reduceSub, Try.el25, Try.td1, Try.td2, Try.td25, Try.td28, Try.td3, Mly.av]; (repeat refine And.intro (by first | omega | assumption | exact rfl) ?_); (first | refine hK0 _ ?_ | refine Or.inl (hK0 _ ?_)); clear hK0 K0; simp only [put, app, setAll, trOf, zE, set_cons_zero, set_cons_succ, reduceAdd])
    refine rg_nil ?_
    refine hK8 _ ?_; clear hK8; refine awp_keep [0, 1, 2, 3, 4, 5, 6, 24] ?_; simp only [keepEnv, lkp, zE, reduceCtorEq, reduceEqDiff, argEnv, reduceAdd]
    refine awp_seq_k fun K9 hK9 => ?_
    refine awp_seq_k fun K10 hK10 => ?_
    refine awp_reg hP hN rfl ?_
    (refine rg_step rfl fun K0 hK0 => ?_; simp only [zE, op1, ev, lkp, avOf, acOf, ev, reduceCtorEq, reduceEqDiff, reduceAdd, reduceLeDiff, reduceLT, reduceMul, reduceSub, Try.td3, Mly.av]; (repeat refine And.intro (by first | omega | assumption | exact rfl) ?_); (first | refine hK0 _ ?_ | refine Or.inl (hK0 _ ?_)); clear hK0 K0; simp only [put, app, setAll, trOf, zE, set_cons_zero, set_cons_succ, reduceAdd])
    refine rg_nil ?_
    refine hK10 _ ?_; clear hK10; refine awp_keep [0, 1, 2, 3, 4, 5, 6, 7, 24] ?_; simp only [keepEnv, lkp, zE, reduceCtorEq, reduceEqDiff, argEnv, reduceAdd]
    refine awp_block ?_
    refine awp_loop (fun n11 s11 => ∃ (j : Nat) (C : List Int), (STD m C j) ∧ n11 = m.inp.toNat + 1 - j ∧ s11 = { env := [(1, .one (.ptr 0 0 0 0)), (3, .one (.list (.int .i64) C)), (4, .one (.list (.int .i64) (runLm m))), (5, .one (.int .i64 (runNm m))), (6, .one (.int .i64 (validE m))), (7, .one (.int .i64 (j : Int)))], L := [.vars 24 [.int .i64 m.inp, .int .i64 m.st, .list (.list (.int .i64)) m.nx, .list (.list (.int .i64)) m.ot]] }) ?_ ?_
    · exact ⟨_, _, sub_keep [1, 3, 4, 5, 6, 7], 0, List.replicate m.inp.toNat 0, std_zero hm, rfl, rfl⟩
    · rintro n11 s11 ⟨j, C, hst, rfl, rfl⟩
      refine awp_seq_k fun K12 hK12 => ?_
      refine awp_seq_k fun K13 hK13 => ?_
      have hsb := (std_cnt hm hst).2.2; have hct := hst.ct
      refine awp_reg hP hN rfl ?_
      iterate 4 (refine rg_step rfl fun K0 hK0 => ?_; simp only [zE, op1, ev, lkp, avOf, acOf, opFieldAddr, opLoad, Nat.mul_one, readAC, isAggK, acs, Ty.dflt, zG, cellsAt, opBin, arith, inK_i64, eqACs, eqAC, reduceCtorEq, reduceEqDiff, reduceAdd, reduceLeDiff, reduceLT, reduceMul, reduceSub, Try.st24, Try.td24, Try.td3, Try.td4, Mly.av]; (repeat refine And.intro (by first | omega | assumption | exact rfl) ?_); (first | refine hK0 _ ?_ | refine Or.inl (hK0 _ ?_)); clear hK0 K0; simp only [put, app, setAll, trOf, zE, set_cons_zero, set_cons_succ, reduceAdd])
      refine rg_nil ?_
      refine hK13 _ ?_; clear hK13; refine awp_keep [1, 3, 4, 5, 6, 7, 38] ?_; simp only [keepEnv, lkp, zE, reduceCtorEq, reduceEqDiff, argEnv, reduceAdd]
      refine awp_cond (by simp only [ev, keepEnv, lkp, zE, reduceCtorEq, reduceEqDiff, argEnv, reduceAdd]; exact rfl) (fun hc14 => ?_) (fun hc14 => ?_)
      · (try simp only [decide_eq_true_eq, decide_eq_false_iff_not, Bool.not_true, Bool.not_false, Bool.not_eq_true, Bool.not_eq_false, Bool.not_eq_eq_eq_not, Int.not_lt, Int.not_le, reduceCtorEq, Bool.true_eq_false, Bool.false_eq_true, ne_eq, Decidable.not_not, Bool.not_eq_true', bne_iff_ne, Bool.or_eq_true, Bool.and_eq_true, Bool.or_eq_false_iff, Bool.and_eq_false_iff] at hc14)
        refine awp_skip ?_
        refine hK12 _ ?_; clear hK12; refine awp_keep [1, 3, 4, 5, 6, 7, 38] ?_; simp only [keepEnv, lkp, zE, reduceCtorEq, reduceEqDiff, argEnv, reduceAdd]
        refine awp_seq_k fun K15 hK15 => ?_
        refine awp_block ?_
        refine awp_seq_k fun K16 hK16 => ?_
        have hch := chk_of (std_cok hm hst)
        refine awp_reg hP hN rfl ?_
        iterate 2 (refine rg_step rfl fun K0 hK0 => ?_; simp only [zE, op1, ev, lkp, avOf, acOf, opLoad, Nat.mul_one, readAC, isAggK, acs, Ty.dflt, zG, cellsAt, reduceCtorEq, reduceEqDiff, reduceAdd, reduceLeDiff, reduceLT, reduceMul, reduceSub, Try.el25, Try.st24, Try.td24, Try.td25, Mly.av]; (repeat refine And.intro (by first | omega | assumption | exact rfl) ?_); (first | refine hK0 _ ?_ | refine Or.inl (hK0 _ ?_)); clear hK0 K0; simp only [put, app, setAll, trOf, zE, set_cons_zero, set_cons_succ, reduceAdd])
        refine rg_step rfl fun K0 hK0 => ?_
        refine op_call (h := call_of_pure (step_c2 m C)) rfl rfl (by first | exact rfl | (simp only [ev, keepEnv, lkp, zE, reduceCtorEq, reduceEqDiff, argEnv, reduceAdd]; exact rfl)) (by simp only [zE, zG, op1, ev, lkp, avOf, acOf, cellsAV, acs, capAV, mv1, mvC, Ty.dflt, reduceCtorEq, reduceEqDiff, reduceAdd, reduceLeDiff, reduceLT, reduceMul, reduceSub, Mly.av]) ?_
        refine hK0 _ ?_; clear hK0 K0; simp only [put, app, setAll, trOf, zE, set_cons_zero, set_cons_succ, reduceAdd]
        iterate 7 (refine rg_step rfl fun K0 hK0 => ?_; simp only [zE, op1, ev, lkp, avOf, acOf, opExtract, reduceCtorEq, reduceEqDiff, reduceAdd, reduceLeDiff, reduceLT, reduceMul, reduceSub, Try.el25, Try.td1, Try.td2, Try.td25, Try.td28, Try.td4, Mly.av]; (repeat refine And.intro (by first | omega | assumption | exact rfl) ?_); (first | refine hK0 _ ?_ | refine Or.inl (hK0 _ ?_)); clear hK0 K0; simp only [put, app, setAll, trOf, zE, set_cons_zero, set_cons_succ, reduceAdd])
        refine rg_nil ?_
        refine hK16 _ ?_; clear hK16; refine awp_keep [1, 3, 4, 5, 6, 7, 8, 9, 10, 38] ?_; simp only [keepEnv, lkp, zE, reduceCtorEq, reduceEqDiff, argEnv, reduceAdd]
        refine awp_seq_k fun K17 hK17 => ?_
        refine awp_seq_k fun K18 hK18 => ?_
        refine awp_reg hP hN rfl ?_
        iterate 2 (refine rg_step rfl fun K0 hK0 => ?_; simp only [zE, op1, ev, lkp, avOf, acOf, opBin, arith, inK_i64, eqACs, eqAC, reduceCtorEq, reduceEqDiff, reduceAdd, reduceLeDiff, reduceLT, reduceMul, reduceSub, Try.td28, Try.td4, Mly.av]; (repeat refine And.intro (by first | omega | assumption | exact rfl) ?_); (first | refine hK0 _ ?_ | refine Or.inl (hK0 _ ?_)); clear hK0 K0; simp only [put, app, setAll, trOf, zE, set_cons_zero, set_cons_succ, reduceAdd])
        refine rg_nil ?_
        refine hK18 _ ?_; clear hK18; refine awp_keep [1, 3, 4, 5, 6, 7, 8, 9, 10, 38, 49] ?_; simp only [keepEnv, lkp, zE, reduceCtorEq, reduceEqDiff, argEnv, reduceAdd]
        refine awp_cond (by simp only [ev, keepEnv, lkp, zE, reduceCtorEq, reduceEqDiff, argEnv, reduceAdd]; exact rfl) (fun hc19 => ?_) (fun hc19 => ?_)
        · exfalso; (try simp only [decide_eq_true_eq, decide_eq_false_iff_not, Bool.not_true, Bool.not_false, Bool.not_eq_true, Bool.not_eq_false, Bool.not_eq_eq_eq_not, Int.not_lt, Int.not_le, reduceCtorEq, Bool.true_eq_false, Bool.false_eq_true, ne_eq, Decidable.not_not, Bool.not_eq_true', bne_iff_ne, Bool.or_eq_true, Bool.and_eq_true, Bool.or_eq_false_iff, Bool.and_eq_false_iff] at hc19); all_goals (first | (cases hc19; done) | omega | (simp at hc19; done) | (simp_all; done))
        · (try simp only [decide_eq_true_eq, decide_eq_false_iff_not, Bool.not_true, Bool.not_false, Bool.not_eq_true, Bool.not_eq_false, Bool.not_eq_eq_eq_not, Int.not_lt, Int.not_le, reduceCtorEq, Bool.true_eq_false, Bool.false_eq_true, ne_eq, Decidable.not_not, Bool.not_eq_true', bne_iff_ne, Bool.or_eq_true, Bool.and_eq_true, Bool.or_eq_false_iff, Bool.and_eq_false_iff] at hc19)
          refine awp_skip ?_
          refine hK17 _ ?_; clear hK17; refine awp_keep [1, 3, 4, 5, 6, 7, 8, 9, 10, 38, 49] ?_; simp only [keepEnv, lkp, zE, reduceCtorEq, reduceEqDiff, argEnv, reduceAdd]
          refine awp_seq_k fun K20 hK20 => ?_
          refine awp_seq_k fun K21 hK21 => ?_
          refine awp_reg hP hN rfl ?_
          iterate 2 (refine rg_step rfl fun K0 hK0 => ?_; simp only [zE, op1, ev, lkp, avOf, acOf, opUn, reduceCtorEq, reduceEqDiff, reduceAdd, reduceLeDiff, reduceLT, reduceMul, reduceSub, Try.td4, Mly.av]; (repeat refine And.intro (by first | omega | assumption | exact rfl) ?_); (first | refine hK0 _ ?_ | refine Or.inl (hK0 _ ?_)); clear hK0 K0; simp only [put, app, setAll, trOf, zE, set_cons_zero, set_cons_succ, reduceAdd])
          refine rg_nil ?_
          refine hK21 _ ?_; clear hK21; refine awp_keep [1, 3, 4, 5, 6, 7, 8, 9, 10, 38, 49, 51] ?_; simp only [keepEnv, lkp, zE, reduceCtorEq, reduceEqDiff, argEnv, reduceAdd]
          refine awp_cond (by simp only [ev, keepEnv, lkp, zE, reduceCtorEq, reduceEqDiff, argEnv, reduceAdd]; exact rfl) (fun hc22 => ?_) (fun hc22 => ?_)
          · (try simp only [decide_eq_true_eq, decide_eq_false_iff_not, Bool.not_true, Bool.not_false, Bool.not_eq_true, Bool.not_eq_false, Bool.not_eq_eq_eq_not, Int.not_lt, Int.not_le, reduceCtorEq, Bool.true_eq_false, Bool.false_eq_true, ne_eq, Decidable.not_not, Bool.not_eq_true', bne_iff_ne, Bool.or_eq_true, Bool.and_eq_true, Bool.or_eq_false_iff, Bool.and_eq_false_iff] at hc22)
            obtain ⟨hs1, hs2, hs3⟩ := std_end hm hst (by simpa using hc22)
            have hs4 := hst.ce
            refine awp_seq_k fun K23 hK23 => ?_
            refine awp_reg hP hN rfl ?_
            (refine rg_step rfl fun K0 hK0 => ?_; simp only [zE, op1, ev, lkp, avOf, acOf, ev, reduceCtorEq, reduceEqDiff, reduceAdd, reduceLeDiff, reduceLT, reduceMul, reduceSub, Try.el25, Try.td25, Mly.av]; (repeat refine And.intro (by first | omega | assumption | exact rfl) ?_); (first | refine hK0 _ ?_ | refine Or.inl (hK0 _ ?_)); clear hK0 K0; simp only [put, app, setAll, trOf, zE, set_cons_zero, set_cons_succ, reduceAdd])
            refine rg_step rfl fun K0 hK0 => ?_
            refine op_call (h := call_of_pure (count_c C)) rfl rfl (by first | exact rfl | (simp only [ev, keepEnv, lkp, zE, reduceCtorEq, reduceEqDiff, argEnv, reduceAdd]; exact rfl)) (by simp only [zE, zG, op1, ev, lkp, avOf, acOf, cellsAV, acs, capAV, mv1, mvC, Ty.dflt, reduceCtorEq, reduceEqDiff, reduceAdd, reduceLeDiff, reduceLT, reduceMul, reduceSub, Mly.av]) ?_
            refine hK0 _ ?_; clear hK0 K0; simp only [put, app, setAll, trOf, zE, set_cons_zero, set_cons_succ, reduceAdd]
            iterate 5 (refine rg_step rfl fun K0 hK0 => ?_; simp only [zE, op1, ev, lkp, avOf, acOf, opExtract, reduceCtorEq, reduceEqDiff, reduceAdd, reduceLeDiff, reduceLT, reduceMul, reduceSub, Try.td1, Try.td3, Mly.av]; (repeat refine And.intro (by first | omega | assumption | exact rfl) ?_); (first | refine hK0 _ ?_ | refine Or.inl (hK0 _ ?_)); clear hK0 K0; simp only [put, app, setAll, trOf, zE, set_cons_zero, set_cons_succ, reduceAdd])
            refine rg_nil ?_
            refine hK23 _ ?_; clear hK23; refine awp_keep [1, 3, 4, 5, 6, 7, 8, 9, 10, 11, 12, 38, 49, 51] ?_; simp only [keepEnv, lkp, zE, reduceCtorEq, reduceEqDiff, argEnv, reduceAdd]
            refine awp_seq_k fun K24 hK24 => ?_
            refine awp_reg hP hN rfl ?_
            iterate 2 (refine rg_step rfl fun K0 hK0 => ?_; simp only [zE, op1, ev, lkp, avOf, acOf, opBin, arith, inK_i64, eqACs, eqAC, reduceCtorEq, reduceEqDiff, reduceAdd, reduceLeDiff, reduceLT, reduceMul, reduceSub, Try.td28, Try.td4, Mly.av]; (repeat refine And.intro (by first | omega | assumption | exact rfl) ?_); (first | refine hK0 _ ?_ | refine Or.inl (hK0 _ ?_)); clear hK0 K0; simp only [put, app, setAll, trOf, zE, set_cons_zero, set_cons_succ, reduceAdd])
            (refine rg_step rfl fun K0 hK0 => ?_; simp only [zE, op1, ev, lkp, avOf, acOf, ev, reduceCtorEq, reduceEqDiff, reduceAdd, reduceLeDiff, reduceLT, reduceMul, reduceSub, Try.td4, Mly.av]; (repeat refine And.intro (by first | omega | assumption | exact rfl) ?_); (first | refine hK0 _ ?_ | refine Or.inl (hK0 _ ?_)); clear hK0 K0; simp only [put, app, setAll, trOf, zE, set_cons_zero, set_cons_succ, reduceAdd])
            refine' rg_join_n (want := true) 3 rfl (m := 59) (by simp only [keepEnv, lkp, zE, reduceCtorEq, reduceEqDiff, argEnv, reduceAdd]; exact rfl) (by kernel_rfl) rfl rfl rfl rfl rfl (fun hg25 => ?a25) ?b25 ?c25
            case a25 =>
              have hq25 := hg25; (try simp only [decide_eq_true_eq, decide_eq_false_iff_not, Bool.not_true, Bool.not_false, Bool.not_eq_true, Bool.not_eq_false, Bool.not_eq_eq_eq_not, Int.not_lt, Int.not_le, reduceCtorEq, Bool.true_eq_false, Bool.false_eq_true, ne_eq, Decidable.not_not, Bool.not_eq_true', bne_iff_ne, Bool.or_eq_true, Bool.and_eq_true, Bool.or_eq_false_iff, Bool.and_eq_false_iff] at hg25); simp only [List.take_succ_cons, List.take_zero, List.cons_append, List.nil_append]
              (refine rg_do rfl fun K0 hK0 => ?_; simp only [zE, op1, ev, lkp, avOf, acOf, ev, reduceCtorEq, reduceEqDiff, reduceAdd, reduceLeDiff, reduceLT, reduceMul, reduceSub, Try.el25, Try.td25, Mly.av]; (repeat refine And.intro (by first | omega | assumption | exact rfl) ?_); (first | refine hK0 _ ?_ | refine Or.inl (hK0 _ ?_)); clear hK0 K0; simp only [put, app, setAll, trOf, zE, set_cons_zero, set_cons_succ, reduceAdd])
              (refine rg_do rfl fun K0 hK0 => ?_; simp only [zE, op1, ev, lkp, avOf, acOf, ev, reduceCtorEq, reduceEqDiff, reduceAdd, reduceLeDiff, reduceLT, reduceMul, reduceSub, Try.el25, Try.td25, Mly.av]; (repeat refine And.intro (by first | omega | assumption | exact rfl) ?_); (first | refine hK0 _ ?_ | refine Or.inl (hK0 _ ?_)); clear hK0 K0; simp only [put, app, setAll, trOf, zE, set_cons_zero, set_cons_succ, reduceAdd])
              refine rg_do rfl fun K0 hK0 => ?_
              refine op_call (h := call_of_pure (ints_c C (runLm m))) rfl rfl (by first | exact rfl | (simp only [ev, keepEnv, lkp, zE, reduceCtorEq, reduceEqDiff, argEnv, reduceAdd]; exact rfl)) (by simp only [zE, zG, op1, ev, lkp, avOf, acOf, cellsAV, acs, capAV, mv1, mvC, Ty.dflt, reduceCtorEq, reduceEqDiff, reduceAdd, reduceLeDiff, reduceLT, reduceMul, reduceSub, Mly.av]) ?_
              refine hK0 _ ?_; clear hK0 K0; simp only [put, app, setAll, trOf, zE, set_cons_zero, set_cons_succ, reduceAdd]
              (refine rg_step rfl fun K0 hK0 => ?_; simp only [zE, op1, ev, lkp, avOf, acOf, opPick, reduceCtorEq, reduceEqDiff, reduceAdd, reduceLeDiff, reduceLT, reduceMul, reduceSub, Try.td4, Mly.av]; (repeat refine And.intro (by first | omega | assumption | exact rfl) ?_); (first | refine hK0 _ ?_ | refine Or.inl (hK0 _ ?_)); clear hK0 K0; simp only [put, app, setAll, trOf, zE, set_cons_zero, set_cons_succ, reduceAdd])
              refine rg_nil ?_
              refine ⟨by simp only [keepEnv, lkp, zE, reduceCtorEq, reduceEqDiff, argEnv, reduceAdd]; exact rfl, rfl, ?_, rfl⟩; (repeat refine keep_cons rfl ?_); exact keep_m (by exact rfl) hq25
            case b25 => exact tle_of (by first | rfl | (simp [tleB]; done) | decide)
            simp only [join_or, join_and]
            (refine rg_step rfl fun K0 hK0 => ?_; simp only [zE, op1, ev, lkp, avOf, acOf, ev, reduceCtorEq, reduceEqDiff, reduceAdd, reduceLeDiff, reduceLT, reduceMul, reduceSub, Try.td4, Mly.av]; (repeat refine And.intro (by first | omega | assumption | exact rfl) ?_); (first | refine hK0 _ ?_ | refine Or.inl (hK0 _ ?_)); clear hK0 K0; simp only [put, app, setAll, trOf, zE, set_cons_zero, set_cons_succ, reduceAdd])
            refine' rg_join_n (want := true) 3 rfl (m := 64) (by simp only [keepEnv, lkp, zE, reduceCtorEq, reduceEqDiff, argEnv, reduceAdd]; exact rfl) (by kernel_rfl) rfl rfl rfl rfl rfl (fun hg26 => ?a26) ?b26 ?c26
            case a26 =>
              have hq26 := hg26; (try simp only [decide_eq_true_eq, decide_eq_false_iff_not, Bool.not_true, Bool.not_false, Bool.not_eq_true, Bool.not_eq_false, Bool.not_eq_eq_eq_not, Int.not_lt, Int.not_le, reduceCtorEq, Bool.true_eq_false, Bool.false_eq_true, ne_eq, Decidable.not_not, Bool.not_eq_true', bne_iff_ne, Bool.or_eq_true, Bool.and_eq_true, Bool.or_eq_false_iff, Bool.and_eq_false_iff] at hg26); simp only [List.take_succ_cons, List.take_zero, List.cons_append, List.nil_append]
              (refine rg_do rfl fun K0 hK0 => ?_; simp only [zE, op1, ev, lkp, avOf, acOf, ev, reduceCtorEq, reduceEqDiff, reduceAdd, reduceLeDiff, reduceLT, reduceMul, reduceSub, Try.el25, Try.td25, Mly.av]; (repeat refine And.intro (by first | omega | assumption | exact rfl) ?_); (first | refine hK0 _ ?_ | refine Or.inl (hK0 _ ?_)); clear hK0 K0; simp only [put, app, setAll, trOf, zE, set_cons_zero, set_cons_succ, reduceAdd])
              (refine rg_do rfl fun K0 hK0 => ?_; simp only [zE, op1, ev, lkp, avOf, acOf, ev, reduceCtorEq, reduceEqDiff, reduceAdd, reduceLeDiff, reduceLT, reduceMul, reduceSub, Try.el25, Try.td25, Mly.av]; (repeat refine And.intro (by first | omega | assumption | exact rfl) ?_); (first | refine hK0 _ ?_ | refine Or.inl (hK0 _ ?_)); clear hK0 K0; simp only [put, app, setAll, trOf, zE, set_cons_zero, set_cons_succ, reduceAdd])
              refine rg_do rfl fun K0 hK0 => ?_
              refine op_call (h := call_of_pure (ints_c (stpL m C) C)) rfl rfl (by first | exact rfl | (simp only [ev, keepEnv, lkp, zE, reduceCtorEq, reduceEqDiff, argEnv, reduceAdd]; exact rfl)) (by simp only [zE, zG, op1, ev, lkp, avOf, acOf, cellsAV, acs, capAV, mv1, mvC, Ty.dflt, reduceCtorEq, reduceEqDiff, reduceAdd, reduceLeDiff, reduceLT, reduceMul, reduceSub, Mly.av]) ?_
              refine hK0 _ ?_; clear hK0 K0; simp only [put, app, setAll, trOf, zE, set_cons_zero, set_cons_succ, reduceAdd]
              (refine rg_step rfl fun K0 hK0 => ?_; simp only [zE, op1, ev, lkp, avOf, acOf, opPick, reduceCtorEq, reduceEqDiff, reduceAdd, reduceLeDiff, reduceLT, reduceMul, reduceSub, Try.td4, Mly.av]; (repeat refine And.intro (by first | omega | assumption | exact rfl) ?_); (first | refine hK0 _ ?_ | refine Or.inl (hK0 _ ?_)); clear hK0 K0; simp only [put, app, setAll, trOf, zE, set_cons_zero, set_cons_succ, reduceAdd])
              refine rg_nil ?_
              refine ⟨by simp only [keepEnv, lkp, zE, reduceCtorEq, reduceEqDiff, argEnv, reduceAdd]; exact rfl, rfl, ?_, rfl⟩; (repeat refine keep_cons rfl ?_); exact keep_m (by exact rfl) hq26
            case b26 => exact tle_of (by first | rfl | (simp [tleB]; done) | decide)
            simp only [join_or, join_and]
            (refine rg_step rfl fun K0 hK0 => ?_; simp only [zE, op1, ev, lkp, avOf, acOf, ev, reduceCtorEq, reduceEqDiff, reduceAdd, reduceLeDiff, reduceLT, reduceMul, reduceSub, Try.td4, Mly.av]; (repeat refine And.intro (by first | omega | assumption | exact rfl) ?_); (first | refine hK0 _ ?_ | refine Or.inl (hK0 _ ?_)); clear hK0 K0; simp only [put, app, setAll, trOf, zE, set_cons_zero, set_cons_succ, reduceAdd])
            refine' rg_join_n (want := true) 2 rfl (m := 69) (by simp only [keepEnv, lkp, zE, reduceCtorEq, reduceEqDiff, argEnv, reduceAdd]; exact rfl) (by kernel_rfl) rfl rfl rfl rfl rfl (fun hg27 => ?a27) ?b27 ?c27
            case a27 =>
              have hq27 := hg27; (try simp only [decide_eq_true_eq, decide_eq_false_iff_not, Bool.not_true, Bool.not_false, Bool.not_eq_true, Bool.not_eq_false, Bool.not_eq_eq_eq_not, Int.not_lt, Int.not_le, reduceCtorEq, Bool.true_eq_false, Bool.false_eq_true, ne_eq, Decidable.not_not, Bool.not_eq_true', bne_iff_ne, Bool.or_eq_true, Bool.and_eq_true, Bool.or_eq_false_iff, Bool.and_eq_false_iff] at hg27); simp only [List.take_succ_cons, List.take_zero, List.cons_append, List.nil_append]
              (refine rg_do rfl fun K0 hK0 => ?_; simp only [zE, op1, ev, lkp, avOf, acOf, ev, reduceCtorEq, reduceEqDiff, reduceAdd, reduceLeDiff, reduceLT, reduceMul, reduceSub, Try.td3, Mly.av]; (repeat refine And.intro (by first | omega | assumption | exact rfl) ?_); (first | refine hK0 _ ?_ | refine Or.inl (hK0 _ ?_)); clear hK0 K0; simp only [put, app, setAll, trOf, zE, set_cons_zero, set_cons_succ, reduceAdd])
              (refine rg_do rfl fun K0 hK0 => ?_; simp only [zE, op1, ev, lkp, avOf, acOf, opBin, arith, inK_i64, eqACs, eqAC, reduceCtorEq, reduceEqDiff, reduceAdd, reduceLeDiff, reduceLT, reduceMul, reduceSub, Try.td3, Try.td4, Mly.av]; (repeat refine And.intro (by first | omega | assumption | exact rfl) ?_); (first | refine hK0 _ ?_ | refine Or.inl (hK0 _ ?_)); clear hK0 K0; simp only [put, app, setAll, trOf, zE, set_cons_zero, set_cons_succ, reduceAdd])
              (refine rg_step rfl fun K0 hK0 => ?_; simp only [zE, op1, ev, lkp, avOf, acOf, opPick, reduceCtorEq, reduceEqDiff, reduceAdd, reduceLeDiff, reduceLT, reduceMul, reduceSub, Try.td4, Mly.av]; (repeat refine And.intro (by first | omega | assumption | exact rfl) ?_); (first | refine hK0 _ ?_ | refine Or.inl (hK0 _ ?_)); clear hK0 K0; simp only [put, app, setAll, trOf, zE, set_cons_zero, set_cons_succ, reduceAdd])
              refine rg_nil ?_
              refine ⟨by simp only [keepEnv, lkp, zE, reduceCtorEq, reduceEqDiff, argEnv, reduceAdd]; exact rfl, rfl, ?_, rfl⟩; (repeat refine keep_cons rfl ?_); exact keep_m (by exact rfl) hq27
            case b27 => exact tle_of (by first | rfl | (simp [tleB]; done) | decide)
            simp only [join_or, join_and]
            (refine rg_step rfl fun K0 hK0 => ?_; simp only [zE, op1, ev, lkp, avOf, acOf, ev, reduceCtorEq, reduceEqDiff, reduceAdd, reduceLeDiff, reduceLT, reduceMul, reduceSub, Try.td4, Mly.av]; (repeat refine And.intro (by first | omega | assumption | exact rfl) ?_); (first | refine hK0 _ ?_ | refine Or.inl (hK0 _ ?_)); clear hK0 K0; simp only [put, app, setAll, trOf, zE, set_cons_zero, set_cons_succ, reduceAdd])
            refine' rg_join_n (want := true) 3 rfl (m := 73) (by simp only [keepEnv, lkp, zE, reduceCtorEq, reduceEqDiff, argEnv, reduceAdd]; exact rfl) (by kernel_rfl) rfl rfl rfl rfl rfl (fun hg28 => ?a28) ?b28 ?c28
            case a28 =>
              have hq28 := hg28; (try simp only [decide_eq_true_eq, decide_eq_false_iff_not, Bool.not_true, Bool.not_false, Bool.not_eq_true, Bool.not_eq_false, Bool.not_eq_eq_eq_not, Int.not_lt, Int.not_le, reduceCtorEq, Bool.true_eq_false, Bool.false_eq_true, ne_eq, Decidable.not_not, Bool.not_eq_true', bne_iff_ne, Bool.or_eq_true, Bool.and_eq_true, Bool.or_eq_false_iff, Bool.and_eq_false_iff] at hg28); simp only [List.take_succ_cons, List.take_zero, List.cons_append, List.nil_append]
              (refine rg_do rfl fun K0 hK0 => ?_; simp only [zE, op1, ev, lkp, avOf, acOf, ev, reduceCtorEq, reduceEqDiff, reduceAdd, reduceLeDiff, reduceLT, reduceMul, reduceSub, Try.td3, Mly.av]; (repeat refine And.intro (by first | omega | assumption | exact rfl) ?_); (first | refine hK0 _ ?_ | refine Or.inl (hK0 _ ?_)); clear hK0 K0; simp only [put, app, setAll, trOf, zE, set_cons_zero, set_cons_succ, reduceAdd])
              (refine rg_do rfl fun K0 hK0 => ?_; simp only [zE, op1, ev, lkp, avOf, acOf, ev, reduceCtorEq, reduceEqDiff, reduceAdd, reduceLeDiff, reduceLT, reduceMul, reduceSub, Try.td3, Mly.av]; (repeat refine And.intro (by first | omega | assumption | exact rfl) ?_); (first | refine hK0 _ ?_ | refine Or.inl (hK0 _ ?_)); clear hK0 K0; simp only [put, app, setAll, trOf, zE, set_cons_zero, set_cons_succ, reduceAdd])
              (refine rg_do rfl fun K0 hK0 => ?_; simp only [zE, op1, ev, lkp, avOf, acOf, opBin, arith, inK_i64, eqACs, eqAC, reduceCtorEq, reduceEqDiff, reduceAdd, reduceLeDiff, reduceLT, reduceMul, reduceSub, Try.td3, Try.td4, Mly.av]; (repeat refine And.intro (by first | omega | assumption | exact rfl) ?_); (first | refine hK0 _ ?_ | refine Or.inl (hK0 _ ?_)); clear hK0 K0; simp only [put, app, setAll, trOf, zE, set_cons_zero, set_cons_succ, reduceAdd])
              (refine rg_step rfl fun K0 hK0 => ?_; simp only [zE, op1, ev, lkp, avOf, acOf, opPick, reduceCtorEq, reduceEqDiff, reduceAdd, reduceLeDiff, reduceLT, reduceMul, reduceSub, Try.td4, Mly.av]; (repeat refine And.intro (by first | omega | assumption | exact rfl) ?_); (first | refine hK0 _ ?_ | refine Or.inl (hK0 _ ?_)); clear hK0 K0; simp only [put, app, setAll, trOf, zE, set_cons_zero, set_cons_succ, reduceAdd])
              refine rg_nil ?_
              refine ⟨by simp only [keepEnv, lkp, zE, reduceCtorEq, reduceEqDiff, argEnv, reduceAdd]; exact rfl, rfl, ?_, rfl⟩; (repeat refine keep_cons rfl ?_); exact keep_m (by exact rfl) hq28
            case b28 => exact tle_of (by first | rfl | (simp [tleB]; done) | decide)
            simp only [join_or, join_and]
            (refine rg_step rfl fun K0 hK0 => ?_; simp only [zE, op1, ev, lkp, avOf, acOf, ev, reduceCtorEq, reduceEqDiff, reduceAdd, reduceLeDiff, reduceLT, reduceMul, reduceSub, Try.td4, Mly.av]; (repeat refine And.intro (by first | omega | assumption | exact rfl) ?_); (first | refine hK0 _ ?_ | refine Or.inl (hK0 _ ?_)); clear hK0 K0; simp only [put, app, setAll, trOf, zE, set_cons_zero, set_cons_succ, reduceAdd])
            refine' rg_join_n (want := true) 1 rfl (m := 78) (by simp only [keepEnv, lkp, zE, reduceCtorEq, reduceEqDiff, argEnv, reduceAdd]; exact rfl) (by kernel_rfl) rfl rfl rfl rfl rfl (fun hg29 => ?a29) ?b29 ?c29
            case a29 =>
              have hq29 := hg29; (try simp only [decide_eq_true_eq, decide_eq_false_iff_not, Bool.not_true, Bool.not_false, Bool.not_eq_true, Bool.not_eq_false, Bool.not_eq_eq_eq_not, Int.not_lt, Int.not_le, reduceCtorEq, Bool.true_eq_false, Bool.false_eq_true, ne_eq, Decidable.not_not, Bool.not_eq_true', bne_iff_ne, Bool.or_eq_true, Bool.and_eq_true, Bool.or_eq_false_iff, Bool.and_eq_false_iff] at hg29); simp only [List.take_succ_cons, List.take_zero, List.cons_append, List.nil_append]
              refine rg_do rfl fun K0 hK0 => ?_
              refine op_call (h := call_of_pure awake38_c) rfl rfl (by first | exact rfl | (simp only [ev, keepEnv, lkp, zE, reduceCtorEq, reduceEqDiff, argEnv, reduceAdd]; exact rfl)) (by simp only [zE, zG, op1, ev, lkp, avOf, acOf, cellsAV, acs, capAV, mv1, mvC, Ty.dflt, reduceCtorEq, reduceEqDiff, reduceAdd, reduceLeDiff, reduceLT, reduceMul, reduceSub, Mly.av]) ?_
              refine hK0 _ ?_; clear hK0 K0; simp only [put, app, setAll, trOf, zE, set_cons_zero, set_cons_succ, reduceAdd]
              (refine rg_step rfl fun K0 hK0 => ?_; simp only [zE, op1, ev, lkp, avOf, acOf, opPick, reduceCtorEq, reduceEqDiff, reduceAdd, reduceLeDiff, reduceLT, reduceMul, reduceSub, Try.td4, Mly.av]; (repeat refine And.intro (by first | omega | assumption | exact rfl) ?_); (first | refine hK0 _ ?_ | refine Or.inl (hK0 _ ?_)); clear hK0 K0; simp only [put, app, setAll, trOf, zE, set_cons_zero, set_cons_succ, reduceAdd])
              refine rg_nil ?_
              refine ⟨by simp only [keepEnv, lkp, zE, reduceCtorEq, reduceEqDiff, argEnv, reduceAdd]; exact rfl, rfl, ?_, rfl⟩; (repeat refine keep_cons rfl ?_); exact keep_m (by exact rfl) hq29
            case b29 => exact tle_of (by first | rfl | (simp [tleB]; done) | decide)
            simp only [join_or, join_and]
            (refine rg_step rfl fun K0 hK0 => ?_; simp only [zE, op1, ev, lkp, avOf, acOf, ev, reduceCtorEq, reduceEqDiff, reduceAdd, reduceLeDiff, reduceLT, reduceMul, reduceSub, Try.td4, Mly.av]; (repeat refine And.intro (by first | omega | assumption | exact rfl) ?_); (first | refine hK0 _ ?_ | refine Or.inl (hK0 _ ?_)); clear hK0 K0; simp only [put, app, setAll, trOf, zE, set_cons_zero, set_cons_succ, reduceAdd])
            refine rg_nil ?_
            refine hK24 _ ?_; clear hK24; refine awp_keep [1, 2, 3, 4, 5, 6, 7, 8, 9, 10, 11, 12, 38, 49, 51] ?_; simp only [keepEnv, lkp, zE, reduceCtorEq, reduceEqDiff, argEnv, reduceAdd]
            refine awp_ret ?_
            refine ⟨by first | exact .inl rfl | exact .inr rfl, _, rfl, ?_⟩; simp only [fzV, fz1, fzC, List.map_cons, List.map_nil, keepEnv, lkp, zE, reduceCtorEq, reduceEqDiff, argEnv, reduceAdd, Mly.av]
            refine VLE.of_eq ?_
            first | rfl | (refine congrArg (fun b => AV.one (AC.bool b)) ?_; simp_all)
          · (try simp only [decide_eq_true_eq, decide_eq_false_iff_not, Bool.not_true, Bool.not_false, Bool.not_eq_true, Bool.not_eq_false, Bool.not_eq_eq_eq_not, Int.not_lt, Int.not_le, reduceCtorEq, Bool.true_eq_false, Bool.false_eq_true, ne_eq, Decidable.not_not, Bool.not_eq_true', bne_iff_ne, Bool.or_eq_true, Bool.and_eq_true, Bool.or_eq_false_iff, Bool.and_eq_false_iff] at hc22)
            obtain ⟨hs1, hs2⟩ := std_step hm hst (by simpa using hc22)
            have hs3 := hs1.ce; have hs4 := hst.ce; have hs5 := hs1.len
            refine awp_skip ?_
            refine hK20 _ ?_; clear hK20; refine awp_keep [1, 3, 4, 5, 6, 7, 8, 9, 10, 38, 49, 51] ?_; simp only [keepEnv, lkp, zE, reduceCtorEq, reduceEqDiff, argEnv, reduceAdd]
            refine awp_seq_k fun K30 hK30 => ?_
            refine awp_reg hP hN rfl ?_
            (refine rg_step rfl fun K0 hK0 => ?_; simp only [zE, op1, ev, lkp, avOf, acOf, ev, reduceCtorEq, reduceEqDiff, reduceAdd, reduceLeDiff, reduceLT, reduceMul, reduceSub, Try.el25, Try.td25, Mly.av]; (repeat refine And.intro (by first | omega | assumption | exact rfl) ?_); (first | refine hK0 _ ?_ | refine Or.inl (hK0 _ ?_)); clear hK0 K0; simp only [put, app, setAll, trOf, zE, set_cons_zero, set_cons_succ, reduceAdd])
            refine rg_step rfl fun K0 hK0 => ?_
            refine op_call (h := call_of_pure (count_c (stpL m C))) rfl rfl (by first | exact rfl | (simp only [ev, keepEnv, lkp, zE, reduceCtorEq, reduceEqDiff, argEnv, reduceAdd]; exact rfl)) (by simp only [zE, zG, op1, ev, lkp, avOf, acOf, cellsAV, acs, capAV, mv1, mvC, Ty.dflt, reduceCtorEq, reduceEqDiff, reduceAdd, reduceLeDiff, reduceLT, reduceMul, reduceSub, Mly.av]) ?_
            refine hK0 _ ?_; clear hK0 K0; simp only [put, app, setAll, trOf, zE, set_cons_zero, set_cons_succ, reduceAdd]
            iterate 5 (refine rg_step rfl fun K0 hK0 => ?_; simp only [zE, op1, ev, lkp, avOf, acOf, opExtract, reduceCtorEq, reduceEqDiff, reduceAdd, reduceLeDiff, reduceLT, reduceMul, reduceSub, Try.td1, Try.td3, Mly.av]; (repeat refine And.intro (by first | omega | assumption | exact rfl) ?_); (first | refine hK0 _ ?_ | refine Or.inl (hK0 _ ?_)); clear hK0 K0; simp only [put, app, setAll, trOf, zE, set_cons_zero, set_cons_succ, reduceAdd])
            refine rg_nil ?_
            refine hK30 _ ?_; clear hK30; refine awp_keep [1, 3, 4, 5, 6, 7, 8, 9, 10, 13, 14, 38, 49, 51] ?_; simp only [keepEnv, lkp, zE, reduceCtorEq, reduceEqDiff, argEnv, reduceAdd]
            refine awp_seq_k fun K31 hK31 => ?_
            refine awp_reg hP hN rfl ?_
            (refine rg_step rfl fun K0 hK0 => ?_; simp only [zE, op1, ev, lkp, avOf, acOf, ev, reduceCtorEq, reduceEqDiff, reduceAdd, reduceLeDiff, reduceLT, reduceMul, reduceSub, Try.el25, Try.td25, Mly.av]; (repeat refine And.intro (by first | omega | assumption | exact rfl) ?_); (first | refine hK0 _ ?_ | refine Or.inl (hK0 _ ?_)); clear hK0 K0; simp only [put, app, setAll, trOf, zE, set_cons_zero, set_cons_succ, reduceAdd])
            refine rg_step rfl fun K0 hK0 => ?_
            refine op_call (h := call_of_pure (count_c C)) rfl rfl (by first | exact rfl | (simp only [ev, keepEnv, lkp, zE, reduceCtorEq, reduceEqDiff, argEnv, reduceAdd]; exact rfl)) (by simp only [zE, zG, op1, ev, lkp, avOf, acOf, cellsAV, acs, capAV, mv1, mvC, Ty.dflt, reduceCtorEq, reduceEqDiff, reduceAdd, reduceLeDiff, reduceLT, reduceMul, reduceSub, Mly.av]) ?_
            refine hK0 _ ?_; clear hK0 K0; simp only [put, app, setAll, trOf, zE, set_cons_zero, set_cons_succ, reduceAdd]
            iterate 5 (refine rg_step rfl fun K0 hK0 => ?_; simp only [zE, op1, ev, lkp, avOf, acOf, opExtract, reduceCtorEq, reduceEqDiff, reduceAdd, reduceLeDiff, reduceLT, reduceMul, reduceSub, Try.td1, Try.td3, Mly.av]; (repeat refine And.intro (by first | omega | assumption | exact rfl) ?_); (first | refine hK0 _ ?_ | refine Or.inl (hK0 _ ?_)); clear hK0 K0; simp only [put, app, setAll, trOf, zE, set_cons_zero, set_cons_succ, reduceAdd])
            refine rg_nil ?_
            refine hK31 _ ?_; clear hK31; refine awp_keep [1, 3, 4, 5, 6, 7, 8, 9, 10, 13, 14, 15, 16, 38, 49, 51] ?_; simp only [keepEnv, lkp, zE, reduceCtorEq, reduceEqDiff, argEnv, reduceAdd]
            refine awp_seq_k fun K32 hK32 => ?_
            refine awp_seq_k fun K33 hK33 => ?_
            refine awp_reg hP hN rfl ?_
            iterate 2 (refine rg_step rfl fun K0 hK0 => ?_; simp only [zE, op1, ev, lkp, avOf, acOf, opBin, arith, inK_i64, eqACs, eqAC, reduceCtorEq, reduceEqDiff, reduceAdd, reduceLeDiff, reduceLT, reduceMul, reduceSub, Try.td3, Try.td4, Mly.av]; (repeat refine And.intro (by first | omega | assumption | exact rfl) ?_); (first | refine hK0 _ ?_ | refine Or.inl (hK0 _ ?_)); clear hK0 K0; simp only [put, app, setAll, trOf, zE, set_cons_zero, set_cons_succ, reduceAdd])
            (refine rg_step rfl fun K0 hK0 => ?_; simp only [zE, op1, ev, lkp, avOf, acOf, ev, reduceCtorEq, reduceEqDiff, reduceAdd, reduceLeDiff, reduceLT, reduceMul, reduceSub, Try.td4, Mly.av]; (repeat refine And.intro (by first | omega | assumption | exact rfl) ?_); (first | refine hK0 _ ?_ | refine Or.inl (hK0 _ ?_)); clear hK0 K0; simp only [put, app, setAll, trOf, zE, set_cons_zero, set_cons_succ, reduceAdd])
            refine' rg_join_n (want := false) 2 rfl (m := 93) (by simp only [keepEnv, lkp, zE, reduceCtorEq, reduceEqDiff, argEnv, reduceAdd]; exact rfl) (by kernel_rfl) rfl rfl rfl rfl rfl (fun hg34 => ?a34) ?b34 ?c34
            case a34 =>
              have hq34 := hg34; (try simp only [decide_eq_true_eq, decide_eq_false_iff_not, Bool.not_true, Bool.not_false, Bool.not_eq_true, Bool.not_eq_false, Bool.not_eq_eq_eq_not, Int.not_lt, Int.not_le, reduceCtorEq, Bool.true_eq_false, Bool.false_eq_true, ne_eq, Decidable.not_not, Bool.not_eq_true', bne_iff_ne, Bool.or_eq_true, Bool.and_eq_true, Bool.or_eq_false_iff, Bool.and_eq_false_iff] at hg34); simp only [List.take_succ_cons, List.take_zero, List.cons_append, List.nil_append]
              (refine rg_do rfl fun K0 hK0 => ?_; simp only [zE, op1, ev, lkp, avOf, acOf, ev, reduceCtorEq, reduceEqDiff, reduceAdd, reduceLeDiff, reduceLT, reduceMul, reduceSub, Try.td3, Mly.av]; (repeat refine And.intro (by first | omega | assumption | exact rfl) ?_); (first | refine hK0 _ ?_ | refine Or.inl (hK0 _ ?_)); clear hK0 K0; simp only [put, app, setAll, trOf, zE, set_cons_zero, set_cons_succ, reduceAdd])
              (refine rg_do rfl fun K0 hK0 => ?_; simp only [zE, op1, ev, lkp, avOf, acOf, opBin, arith, inK_i64, eqACs, eqAC, reduceCtorEq, reduceEqDiff, reduceAdd, reduceLeDiff, reduceLT, reduceMul, reduceSub, Try.td3, Try.td4, Mly.av]; (repeat refine And.intro (by first | omega | assumption | exact rfl) ?_); (first | refine hK0 _ ?_ | refine Or.inl (hK0 _ ?_)); clear hK0 K0; simp only [put, app, setAll, trOf, zE, set_cons_zero, set_cons_succ, reduceAdd])
              (refine rg_step rfl fun K0 hK0 => ?_; simp only [zE, op1, ev, lkp, avOf, acOf, opPick, reduceCtorEq, reduceEqDiff, reduceAdd, reduceLeDiff, reduceLT, reduceMul, reduceSub, Try.td4, Mly.av]; (repeat refine And.intro (by first | omega | assumption | exact rfl) ?_); (first | refine hK0 _ ?_ | refine Or.inl (hK0 _ ?_)); clear hK0 K0; simp only [put, app, setAll, trOf, zE, set_cons_zero, set_cons_succ, reduceAdd])
              refine rg_nil ?_
              refine ⟨by simp only [keepEnv, lkp, zE, reduceCtorEq, reduceEqDiff, argEnv, reduceAdd]; exact rfl, rfl, ?_, rfl⟩; (repeat refine keep_cons rfl ?_); exact keep_m (by exact rfl) hq34
            case b34 => exact tle_of (by first | rfl | (simp [tleB]; done) | decide)
            simp only [join_or, join_and]
            (refine rg_step rfl fun K0 hK0 => ?_; simp only [zE, op1, ev, lkp, avOf, acOf, ev, reduceCtorEq, reduceEqDiff, reduceAdd, reduceLeDiff, reduceLT, reduceMul, reduceSub, Try.td4, Mly.av]; (repeat refine And.intro (by first | omega | assumption | exact rfl) ?_); (first | refine hK0 _ ?_ | refine Or.inl (hK0 _ ?_)); clear hK0 K0; simp only [put, app, setAll, trOf, zE, set_cons_zero, set_cons_succ, reduceAdd])
            refine' rg_join_n (want := false) 3 rfl (m := 97) (by simp only [keepEnv, lkp, zE, reduceCtorEq, reduceEqDiff, argEnv, reduceAdd]; exact rfl) (by kernel_rfl) rfl rfl rfl rfl rfl (fun hg35 => ?a35) ?b35 ?c35
            case a35 =>
              have hq35 := hg35; (try simp only [decide_eq_true_eq, decide_eq_false_iff_not, Bool.not_true, Bool.not_false, Bool.not_eq_true, Bool.not_eq_false, Bool.not_eq_eq_eq_not, Int.not_lt, Int.not_le, reduceCtorEq, Bool.true_eq_false, Bool.false_eq_true, ne_eq, Decidable.not_not, Bool.not_eq_true', bne_iff_ne, Bool.or_eq_true, Bool.and_eq_true, Bool.or_eq_false_iff, Bool.and_eq_false_iff] at hg35); simp only [List.take_succ_cons, List.take_zero, List.cons_append, List.nil_append]
              (refine rg_do rfl fun K0 hK0 => ?_; simp only [zE, op1, ev, lkp, avOf, acOf, ev, reduceCtorEq, reduceEqDiff, reduceAdd, reduceLeDiff, reduceLT, reduceMul, reduceSub, Try.td3, Mly.av]; (repeat refine And.intro (by first | omega | assumption | exact rfl) ?_); (first | refine hK0 _ ?_ | refine Or.inl (hK0 _ ?_)); clear hK0 K0; simp only [put, app, setAll, trOf, zE, set_cons_zero, set_cons_succ, reduceAdd])
              (refine rg_do rfl fun K0 hK0 => ?_; simp only [zE, op1, ev, lkp, avOf, acOf, ev, reduceCtorEq, reduceEqDiff, reduceAdd, reduceLeDiff, reduceLT, reduceMul, reduceSub, Try.td3, Mly.av]; (repeat refine And.intro (by first | omega | assumption | exact rfl) ?_); (first | refine hK0 _ ?_ | refine Or.inl (hK0 _ ?_)); clear hK0 K0; simp only [put, app, setAll, trOf, zE, set_cons_zero, set_cons_succ, reduceAdd])
              (refine rg_do rfl fun K0 hK0 => ?_; simp only [zE, op1, ev, lkp, avOf, acOf, opBin, arith, inK_i64, eqACs, eqAC, reduceCtorEq, reduceEqDiff, reduceAdd, reduceLeDiff, reduceLT, reduceMul, reduceSub, Try.td3, Try.td4, Mly.av]; (repeat refine And.intro (by first | omega | assumption | exact rfl) ?_); (first | refine hK0 _ ?_ | refine Or.inl (hK0 _ ?_)); clear hK0 K0; simp only [put, app, setAll, trOf, zE, set_cons_zero, set_cons_succ, reduceAdd])
              (refine rg_step rfl fun K0 hK0 => ?_; simp only [zE, op1, ev, lkp, avOf, acOf, opPick, reduceCtorEq, reduceEqDiff, reduceAdd, reduceLeDiff, reduceLT, reduceMul, reduceSub, Try.td4, Mly.av]; (repeat refine And.intro (by first | omega | assumption | exact rfl) ?_); (first | refine hK0 _ ?_ | refine Or.inl (hK0 _ ?_)); clear hK0 K0; simp only [put, app, setAll, trOf, zE, set_cons_zero, set_cons_succ, reduceAdd])
              refine rg_nil ?_
              refine ⟨by simp only [keepEnv, lkp, zE, reduceCtorEq, reduceEqDiff, argEnv, reduceAdd]; exact rfl, rfl, ?_, rfl⟩; (repeat refine keep_cons rfl ?_); exact keep_m (by exact rfl) hq35
            case b35 => exact tle_of (by first | rfl | (simp [tleB]; done) | decide)
            simp only [join_or, join_and]
            (refine rg_step rfl fun K0 hK0 => ?_; simp only [zE, op1, ev, lkp, avOf, acOf, ev, reduceCtorEq, reduceEqDiff, reduceAdd, reduceLeDiff, reduceLT, reduceMul, reduceSub, Try.td4, Mly.av]; (repeat refine And.intro (by first | omega | assumption | exact rfl) ?_); (first | refine hK0 _ ?_ | refine Or.inl (hK0 _ ?_)); clear hK0 K0; simp only [put, app, setAll, trOf, zE, set_cons_zero, set_cons_succ, reduceAdd])
            refine' rg_join_n (want := false) 5 rfl (m := 102) (by simp only [keepEnv, lkp, zE, reduceCtorEq, reduceEqDiff, argEnv, reduceAdd]; exact rfl) (by kernel_rfl) rfl rfl rfl rfl rfl (fun hg36 => ?a36) ?b36 ?c36
            case a36 =>
              have hq36 := hg36; (try simp only [decide_eq_true_eq, decide_eq_false_iff_not, Bool.not_true, Bool.not_false, Bool.not_eq_true, Bool.not_eq_false, Bool.not_eq_eq_eq_not, Int.not_lt, Int.not_le, reduceCtorEq, Bool.true_eq_false, Bool.false_eq_true, ne_eq, Decidable.not_not, Bool.not_eq_true', bne_iff_ne, Bool.or_eq_true, Bool.and_eq_true, Bool.or_eq_false_iff, Bool.and_eq_false_iff] at hg36); simp only [List.take_succ_cons, List.take_zero, List.cons_append, List.nil_append]
              (refine rg_do rfl fun K0 hK0 => ?_; simp only [zE, op1, ev, lkp, avOf, acOf, ev, reduceCtorEq, reduceEqDiff, reduceAdd, reduceLeDiff, reduceLT, reduceMul, reduceSub, Try.el25, Try.td25, Mly.av]; (repeat refine And.intro (by first | omega | assumption | exact rfl) ?_); (first | refine hK0 _ ?_ | refine Or.inl (hK0 _ ?_)); clear hK0 K0; simp only [put, app, setAll, trOf, zE, set_cons_zero, set_cons_succ, reduceAdd])
              (refine rg_do rfl fun K0 hK0 => ?_; simp only [zE, op1, ev, lkp, avOf, acOf, opCallAny, opMM, opLen, lenAC, lenOk, fpAC, Nat.div_one, opAppend, srcOf, Ty.size, datOf, dite_true, reduceCtorEq, reduceEqDiff, reduceAdd, reduceLeDiff, reduceLT, reduceMul, reduceSub, Try.el25, Try.td25, Try.td3, Mly.av]; (repeat refine And.intro (by first | omega | assumption | exact rfl) ?_); (first | refine hK0 _ ?_ | refine Or.inl (hK0 _ ?_)); clear hK0 K0; simp only [put, app, setAll, trOf, zE, set_cons_zero, set_cons_succ, reduceAdd])
              (refine rg_do rfl fun K0 hK0 => ?_; simp only [zE, op1, ev, lkp, avOf, acOf, opFieldAddr, reduceCtorEq, reduceEqDiff, reduceAdd, reduceLeDiff, reduceLT, reduceMul, reduceSub, Try.st24, Try.td24, Mly.av]; (repeat refine And.intro (by first | omega | assumption | exact rfl) ?_); (first | refine hK0 _ ?_ | refine Or.inl (hK0 _ ?_)); clear hK0 K0; simp only [put, app, setAll, trOf, zE, set_cons_zero, set_cons_succ, reduceAdd])
              (refine rg_do rfl fun K0 hK0 => ?_; simp only [zE, op1, ev, lkp, avOf, acOf, opLoad, Nat.mul_one, readAC, isAggK, acs, Ty.dflt, zG, cellsAt, reduceCtorEq, reduceEqDiff, reduceAdd, reduceLeDiff, reduceLT, reduceMul, reduceSub, Try.td3, Mly.av]; (repeat refine And.intro (by first | omega | assumption | exact rfl) ?_); (first | refine hK0 _ ?_ | refine Or.inl (hK0 _ ?_)); clear hK0 K0; simp only [put, app, setAll, trOf, zE, set_cons_zero, set_cons_succ, reduceAdd])
              (refine rg_do rfl fun K0 hK0 => ?_; simp only [zE, op1, ev, lkp, avOf, acOf, opBin, arith, inK_i64, eqACs, eqAC, reduceCtorEq, reduceEqDiff, reduceAdd, reduceLeDiff, reduceLT, reduceMul, reduceSub, Try.td3, Try.td4, Mly.av]; (repeat refine And.intro (by first | omega | assumption | exact rfl) ?_); (first | refine hK0 _ ?_ | refine Or.inl (hK0 _ ?_)); clear hK0 K0; simp only [put, app, setAll, trOf, zE, set_cons_zero, set_cons_succ, reduceAdd])
              (refine rg_step rfl fun K0 hK0 => ?_; simp only [zE, op1, ev, lkp, avOf, acOf, opPick, reduceCtorEq, reduceEqDiff, reduceAdd, reduceLeDiff, reduceLT, reduceMul, reduceSub, Try.td4, Mly.av]; (repeat refine And.intro (by first | omega | assumption | exact rfl) ?_); (first | refine hK0 _ ?_ | refine Or.inl (hK0 _ ?_)); clear hK0 K0; simp only [put, app, setAll, trOf, zE, set_cons_zero, set_cons_succ, reduceAdd])
              refine rg_nil ?_
              refine ⟨by simp only [keepEnv, lkp, zE, reduceCtorEq, reduceEqDiff, argEnv, reduceAdd]; exact rfl, rfl, ?_, rfl⟩; (repeat refine keep_cons rfl ?_); exact keep_m (by exact rfl) hq36
            case b36 => exact tle_of (by first | rfl | (simp [tleB]; done) | decide)
            simp only [join_or, join_and]
            refine rg_nil ?_
            refine hK33 _ ?_; clear hK33; refine awp_keep [1, 3, 4, 5, 6, 7, 8, 9, 10, 13, 14, 15, 16, 38, 49, 51, 108] ?_; simp only [keepEnv, lkp, zE, reduceCtorEq, reduceEqDiff, argEnv, reduceAdd]
            refine awp_cond (by simp only [ev, keepEnv, lkp, zE, reduceCtorEq, reduceEqDiff, argEnv, reduceAdd]; exact rfl) (fun hc37 => ?_) (fun hc37 => ?_)
            · exfalso; (try simp only [decide_eq_true_eq, decide_eq_false_iff_not, Bool.not_true, Bool.not_false, Bool.not_eq_true, Bool.not_eq_false, Bool.not_eq_eq_eq_not, Int.not_lt, Int.not_le, reduceCtorEq, Bool.true_eq_false, Bool.false_eq_true, ne_eq, Decidable.not_not, Bool.not_eq_true', bne_iff_ne, Bool.or_eq_true, Bool.and_eq_true, Bool.or_eq_false_iff, Bool.and_eq_false_iff] at hc37); all_goals (first | (cases hc37; done) | omega | (simp at hc37; done) | (simp_all; done))
            · (try simp only [decide_eq_true_eq, decide_eq_false_iff_not, Bool.not_true, Bool.not_false, Bool.not_eq_true, Bool.not_eq_false, Bool.not_eq_eq_eq_not, Int.not_lt, Int.not_le, reduceCtorEq, Bool.true_eq_false, Bool.false_eq_true, ne_eq, Decidable.not_not, Bool.not_eq_true', bne_iff_ne, Bool.or_eq_true, Bool.and_eq_true, Bool.or_eq_false_iff, Bool.and_eq_false_iff] at hc37)
              refine awp_skip ?_
              refine hK32 _ ?_; clear hK32; refine awp_keep [1, 3, 4, 5, 6, 7, 8, 9, 10, 13, 14, 15, 16, 38, 49, 51, 108] ?_; simp only [keepEnv, lkp, zE, reduceCtorEq, reduceEqDiff, argEnv, reduceAdd]
              refine awp_reg hP hN rfl ?_
              iterate 2 (refine rg_step rfl fun K0 hK0 => ?_; simp only [zE, op1, ev, lkp, avOf, acOf, ev, reduceCtorEq, reduceEqDiff, reduceAdd, reduceLeDiff, reduceLT, reduceMul, reduceSub, Try.el25, Try.td25, Mly.av]; (repeat refine And.intro (by first | omega | assumption | exact rfl) ?_); (first | refine hK0 _ ?_ | refine Or.inl (hK0 _ ?_)); clear hK0 K0; simp only [put, app, setAll, trOf, zE, set_cons_zero, set_cons_succ, reduceAdd])
              refine rg_nil ?_
              refine hK15 _ ?_; clear hK15; refine awp_keep [1, 3, 4, 5, 6, 7, 8, 9, 10, 13, 14, 15, 16, 38, 49, 51, 108] ?_; simp only [keepEnv, lkp, zE, reduceCtorEq, reduceEqDiff, argEnv, reduceAdd]
              refine awp_reg hP hN rfl ?_
              iterate 3 (refine rg_step rfl fun K0 hK0 => ?_; simp only [zE, op1, ev, lkp, avOf, acOf, opBin, arith, inK_i64, eqACs, eqAC, reduceCtorEq, reduceEqDiff, reduceAdd, reduceLeDiff, reduceLT, reduceMul, reduceSub, Try.td3, Mly.av]; (repeat refine And.intro (by first | omega | assumption | exact rfl) ?_); (first | refine hK0 _ ?_ | refine Or.inl (hK0 _ ?_)); clear hK0 K0; simp only [put, app, setAll, trOf, zE, set_cons_zero, set_cons_succ, reduceAdd])
              refine rg_nil ?_
              refine ⟨_, _, ?_, sub_keep [1, 3, 4, 5, 6, 7], j + 1, stpL m C, hs1, rfl, rfl⟩
              omega
      · exfalso; (try simp only [decide_eq_true_eq, decide_eq_false_iff_not, Bool.not_true, Bool.not_false, Bool.not_eq_true, Bool.not_eq_false, Bool.not_eq_eq_eq_not, Int.not_lt, Int.not_le, reduceCtorEq, Bool.true_eq_false, Bool.false_eq_true, ne_eq, Decidable.not_not, Bool.not_eq_true', bne_iff_ne, Bool.or_eq_true, Bool.and_eq_true, Bool.or_eq_false_iff, Bool.and_eq_false_iff] at hc14); all_goals (first | (cases hc14; done) | omega | (simp at hc14; done) | (simp_all; done))
end Go.Proofs.Ytceafldjjedhcaa
