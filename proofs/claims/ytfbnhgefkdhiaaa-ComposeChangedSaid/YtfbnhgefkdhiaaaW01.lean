/- Contracts of functions of this seat, each out of a walk through its code, and plain facts on what they compute. Conditions: those that each theorem names. -/
import Derived.Test.YtfbnhgefkdhiaaaW00
set_option linter.unusedSimpArgs false
set_option linter.unusedVariables false
namespace Go.AV
open Nat (reduceEqDiff reduceAdd reduceLeDiff reduceLT reduceMul reduceSub)
open List (set_cons_zero set_cons_succ)
/-plain-/
theorem finD_spec {m : Mly} {cl : List Int} {s : Int} {c d : Nat} (h : finD m cl s c = some d) : c < d ∧ d < cl.length ∧ parS m cl s c d = true := by
  unfold finD at h
  have h1 := List.find?_some h
  have h2 : d < cl.length := by simpa using List.mem_of_find?_eq_some h
  simp only [Bool.and_eq_true, decide_eq_true_eq] at h1
  exact ⟨h1.1, h2, h1.2⟩
theorem finI_spec {m : Mly} {cl : List Int} {p : Nat × Nat × Nat} (h : finI m cl = some p) : (p.1 < m.exR.length ∧ p.2.1 < cl.length ∧ p.2.2 < cl.length) ∧ p.2.1 < p.2.2 ∧ parS m cl (m.exR.getD p.1 eX0).1 p.2.1 p.2.2 = true := by
  unfold finI at h
  obtain ⟨i, hi, he⟩ := List.exists_of_findSome?_eq_some h
  cases hc : finC m cl (m.exR.getD i eX0).1 with
  | none => rw [hc] at he; cases he
  | some q =>
    rw [hc] at he
    simp only [Option.map_some, Option.some.injEq] at he
    subst he
    unfold finC at hc
    obtain ⟨c, hcm, hce⟩ := List.exists_of_findSome?_eq_some hc
    cases hd : finD m cl (m.exR.getD i eX0).1 c with
    | none => rw [hd] at hce; cases hce
    | some d =>
      rw [hd] at hce
      simp only [Option.map_some, Option.some.injEq] at hce
      subst hce
      obtain ⟨h1, h2, h3⟩ := finD_spec hd
      exact ⟨⟨by simpa using hi, by simpa using hcm, h2⟩, h1, h3⟩
def stpL (m : Mly) (cl : List Int) : List Int := if chkE m cl = 0 then (match finI m cl with | some p => (nmS (spl m cl p) m.inp.toNat).1 | none => cl) else []
def stpB (m : Mly) (cl : List Int) : Bool := if chkE m cl = 0 then (finI m cl).isSome else false
/-- The words of a witness. -/
def wTl (m : Mly) (p : Nat × Nat × Nat) : List Int := if m.out (m.exR.getD p.1 eX0).1 p.2.1 = m.out (m.exR.getD p.1 eX0).1 p.2.2 then (seS m m (m.nxt (m.exR.getD p.1 eX0).1 p.2.1) (m.nxt (m.exR.getD p.1 eX0).1 p.2.2)).getD [] else []
def wU (m : Mly) (cl : List Int) : List Int := if chkE m cl = 0 then (match finI m cl with | some p => (m.exR.getD p.1 eX0).2 ++ [(p.2.1 : Int)] ++ wTl m p | none => []) else []
def wV (m : Mly) (cl : List Int) : List Int := if chkE m cl = 0 then (match finI m cl with | some p => (m.exR.getD p.1 eX0).2 ++ [(p.2.2 : Int)] ++ wTl m p | none => []) else []
theorem f3_some (p : Nat × Nat × Nat) : f3 (some p) = ((p.1 : Int), (p.2.1 : Int), (p.2.2 : Int)) := rfl
theorem f3_none : f3 none = (0, 0, 0) := rfl
end Go.AV
namespace Go.AV
open Nat (reduceEqDiff reduceAdd reduceLeDiff reduceLT reduceMul reduceSub)
open List (set_cons_zero set_cons_succ)
/-plain-/
/-! ### a witness's words: identified by the list, but told apart by the machine -/
def SYM (n : Int) (w : List Int) : Prop := ∀ a, a ∈ w → 0 ≤ a ∧ a < n
theorem sym_at {n : Int} {w : List Int} (h : SYM n w) : ∀ i : Nat, i < w.length → 0 ≤ w.getD i 0 ∧ w.getD i 0 < n := fun _ hi => h _ (getD_mem hi)
theorem sym_of {n : Int} {w : List Int} (h : ∀ i : Nat, i < w.length → 0 ≤ w.getD i 0 ∧ w.getD i 0 < n) : SYM n w := fun a ha => by
  obtain ⟨i, hi⟩ := List.getElem?_of_mem ha
  have h1 := (List.getElem?_eq_some_iff.1 hi).1
  have := h i h1
  simpa [List.getD, hi] using this
theorem sym_app {n : Int} {u v : List Int} (hu : SYM n u) (hv : SYM n v) : SYM n (u ++ v) := fun a ha => by
  rcases List.mem_append.1 ha with h | h
  · exact hu a h
  · exact hv a h
theorem sym_one {n : Int} {x : Nat} (h : (x : Int) < n) : SYM n [(x : Int)] := fun a ha => by
  have : a = (x : Int) := by simpa using ha
  omega
def AGW (m : Mly) (e : S2) : Prop := (m.go m.st e.2).1 = e.1 ∧ SYM m.inp e.2
theorem ags_st {m : Mly} {e : S2} {l : List S2} {x : Nat} (h : ∀ f, f ∈ l → AGW m f) (he : AGW m e) (hx : (x : Int) < m.inp) : ∀ f, f ∈ stX m e l x → AGW m f := by
  unfold stX
  split
  · exact h
  · intro f hf
    rcases List.mem_append.1 hf with hf | hf
    · exact h f hf
    · have e1 : f = ((m.row e.1).getD x 0, e.2 ++ [(x : Int)]) := by simpa using hf
      subst e1
      refine ⟨?_, sym_app he.2 (sym_one hx)⟩
      rw [go_append, he.1]; rfl
theorem ags_row {m : Mly} {e : S2} {l : List S2} (h : ∀ f, f ∈ l → AGW m f) (he : AGW m e) : ∀ x : Nat, (x : Int) ≤ m.inp → ∀ f, f ∈ rowX m e l x → AGW m f
  | 0, _ => by simpa [rowX] using h
  | x + 1, hx => by
    rw [rowX_succ]
    exact ags_st (ags_row h he x (by omega)) he (by omega)
theorem ags_exF {m : Mly} (hi : 0 ≤ m.inp) : ∀ (f i : Nat) (l : List S2), (∀ e, e ∈ l → AGW m e) → ∀ e, e ∈ exF m f i l → AGW m e
  | 0, _, _, h => h
  | f + 1, i, l, h => by
    simp only [exF]
    split
    · rename_i hil
      exact ags_exF hi f (i + 1) _ (ags_row h (h _ (mem_X hil)) m.inp.toNat (by omega))
    · exact h
theorem ags_exR {m : Mly} (hm : MOK m) : ∀ e, e ∈ m.exR → AGW m e := by
  have := hm.i1
  refine ags_exF (by omega) _ _ _ fun e he => ?_
  have e1 : e = (m.st, []) := by simpa using he
  subst e1
  exact ⟨rfl, fun a ha => by cases ha⟩
theorem srS_len2 {a b : Mly} (ha : MOK a) (hb : MOK b) (hi : a.inp = b.inp) {B : Nat} (hB : a.nx.length * b.nx.length ≤ B) : ∀ (f i : Nat) (l : List S3), WFS a b l → ∀ w, srS a b f i l = some w → w.length ≤ B + 1
  | 0, _, _, _, w, h => by cases h
  | f + 1, i, l, hl, w, h => by
    simp only [srS] at h
    split at h
    · rename_i hil
      have h1 := hl.wl hil
      have h2 := hl.le
      have h3 := ha.i1
      split at h
      · simp only [Option.some.injEq] at h; subst h
        rw [List.length_append]; simp only [List.length_cons, List.length_nil]; omega
      · exact srS_len2 ha hb hi hB f (i + 1) _ (hl.row ha hb hi hil a.inp.toNat (by omega)) w h
    · cases h
theorem go_one (m : Mly) (e : S2) (c : Nat) (w : List Int) (he : AGW m e) : (m.go m.st (e.2 ++ [(c : Int)] ++ w)).2 = (m.go m.st e.2).2 ++ (m.out e.1 c :: (m.go (m.nxt e.1 c) w).2) := by
  rw [List.append_assoc, go_append, he.1]
  simp only [List.cons_append, List.nil_append]
  rw [go_cons]
structure SHW (m : Mly) (cl : List Int) (u v : List Int) : Prop where
  su : SYM m.inp u
  sv : SYM m.inp v
  lu : u.length ≤ 200
  lv : v.length = u.length
  pos : 0 < u.length
  ne : (m.go m.st u).2 ≠ (m.go m.st v).2
  im : u.map (fun a => cl.getD a.toNat 0) = v.map fun a => cl.getD a.toNat 0
theorem shw {m : Mly} {cl : List Int} {p : Nat × Nat × Nat} (hk : COK m cl) (hs : m.nx.length ≤ 12) (hf : finI m cl = some p) : SHW m cl ((m.exR.getD p.1 eX0).2 ++ [(p.2.1 : Int)] ++ wTl m p) ((m.exR.getD p.1 eX0).2 ++ [(p.2.2 : Int)] ++ wTl m p) := by
  have hm := hk.ok; have hlen := hk.len
  obtain ⟨⟨p1, p2, p3⟩, p4, p5⟩ := finI_spec hf
  have hwx := wfx_exR hm
  have hat := hwx.at_ p1
  have hwl := hwx.wl _ (mem_X p1)
  have hxl := hwx.le
  have hag := ags_exR hm _ (mem_X p1)
  have hnc := hm.nr (m.exR.getD p.1 eX0).1.toNat p.2.1 (by omega) (by omega)
  have hnd := hm.nr (m.exR.getD p.1 eX0).1.toNat p.2.2 (by omega) (by omega)
  have hcl : cl.getD p.2.1 0 = cl.getD p.2.2 0 := by
    unfold parS at p5; simp only [Bool.and_eq_true, decide_eq_true_eq] at p5; exact p5.1
  have hna : agrS m (m.exR.getD p.1 eX0).1 p.2.1 p.2.2 = false := by
    unfold parS at p5; simp only [Bool.and_eq_true, Bool.not_eq_true', decide_eq_true_eq] at p5; exact p5.2
  have hT : SYM m.inp (wTl m p) ∧ (wTl m p).length ≤ 145 ∧ (m.out (m.exR.getD p.1 eX0).1 p.2.1 :: (m.go (m.nxt (m.exR.getD p.1 eX0).1 p.2.1) (wTl m p)).2) ≠ (m.out (m.exR.getD p.1 eX0).1 p.2.2 :: (m.go (m.nxt (m.exR.getD p.1 eX0).1 p.2.2) (wTl m p)).2) := by
    by_cases hO : m.out (m.exR.getD p.1 eX0).1 p.2.1 = m.out (m.exR.getD p.1 eX0).1 p.2.2
    · have e : wTl m p = (seS m m (m.nxt (m.exR.getD p.1 eX0).1 p.2.1) (m.nxt (m.exR.getD p.1 eX0).1 p.2.2)).getD [] := if_pos hO
      have hi := eqc_seS hm hnc hnd
      have hne : ¬ m.eqc.getD (m.nxt (m.exR.getD p.1 eX0).1 p.2.1).toNat 0 = m.eqc.getD (m.nxt (m.exR.getD p.1 eX0).1 p.2.2).toNat 0 := by
        intro hh
        have := agr_iff.2 ⟨hO, hh⟩
        rw [hna] at this; cases this
      have hso : (seS m m (m.nxt (m.exR.getD p.1 eX0).1 p.2.1) (m.nxt (m.exR.getD p.1 eX0).1 p.2.2)).isSome = true := by
        refine hi.trans ?_
        rw [show decide (m.eqc.getD ((m.nx.getD (m.exR.getD p.1 eX0).1.toNat []).getD p.2.1 0).toNat 0 = m.eqc.getD ((m.nx.getD (m.exR.getD p.1 eX0).1.toNat []).getD p.2.2 0).toNat 0) = false from decide_eq_false hne]; rfl
      obtain ⟨w, hw⟩ := Option.isSome_iff_exists.1 hso
      rw [e, hw]
      obtain ⟨w1, w2, w3⟩ := seS_sound hw
      refine ⟨sym_of w1, srS_len2 (B := 144) hm hm rfl (Nat.le_trans (Nat.mul_le_mul hs hs) (by omega)) _ _ _ (wfs_one hnc hnd) w hw, fun hh => w2 ?_⟩
      injection hh
    · have e : wTl m p = [] := if_neg hO
      rw [e]
      refine ⟨fun a ha => (by cases ha), Nat.zero_le _, fun hh => hO ?_⟩
      injection hh
  refine ⟨sym_app (sym_app hag.2 (sym_one (by omega))) hT.1, sym_app (sym_app hag.2 (sym_one (by omega))) hT.1, ?_, ?_, ?_, ?_, ?_⟩
  · simp only [List.length_append, List.length_cons, List.length_nil]; omega
  · simp only [List.length_append, List.length_cons, List.length_nil]
  · simp only [List.length_append, List.length_cons, List.length_nil]; omega
  · rw [go_one m _ _ _ hag, go_one m _ _ _ hag]
    intro hh
    exact hT.2.2 (List.append_cancel_left hh)
  · simp only [List.map_append, List.map_cons, List.map_nil, Int.toNat_natCast, hcl]
theorem shw_from {m : Mly} {w : List Int} (hm : MOK m) (h : SYM m.inp w) (hl : w.length ≤ 200) : fromE m m.st w = 0 ∧ fromV m m.st w = (m.go m.st w).2 := by
  have h1 := hm.s1; have h2 := hm.s2; have h3 := hm.i1; have h4 := hm.i2
  have e : fromE m m.st w = 0 := by
    unfold fromE
    rw [if_neg (by simp [validE_of hm]), if_neg (by omega)]
    exact wordE_ok h3 (by omega) ⟨by omega, sym_at h⟩
  refine ⟨e, ?_⟩
  unfold fromV
  rw [if_pos e]
theorem shw_UV {m : Mly} {cl : List Int} (hc : chkE m cl = 0) (hb : stpB m cl = true) (hs : m.nx.length ≤ 12) : SHW m cl (wU m cl) (wV m cl) := by
  have hk := cok_of hc
  unfold stpB at hb
  rw [if_pos hc] at hb
  obtain ⟨p, hp⟩ := Option.isSome_iff_exists.1 hb
  unfold wU wV
  rw [if_pos hc, if_pos hc, hp]
  exact shw hk hs hp
theorem shw_nil {m : Mly} {cl : List Int} (h : chkE m cl = 0 → stpB m cl = false) : wU m cl = [] ∧ wV m cl = [] := by
  unfold wU wV
  by_cases hc : chkE m cl = 0
  · have hb := h hc
    unfold stpB at hb
    rw [if_pos hc] at hb
    have hn : finI m cl = none := by cases hf : finI m cl with
      | none => rfl
      | some p => rw [hf] at hb; cases hb
    rw [if_pos hc, if_pos hc, hn]; exact ⟨rfl, rfl⟩
  · rw [if_neg hc, if_neg hc]; exact ⟨rfl, rfl⟩
theorem rep_at {n i : Nat} : (List.replicate n (0 : Int)).getD i 0 = 0 := by
  by_cases h : i < n
  · simp [List.getD, h]
  · simp [List.getD, Nat.le_of_not_lt h]
theorem map_take_succ {f : Int → Int} {w : List Int} {k : Nat} (h : k < w.length) : (w.map f).take k ++ [f (w.getD k 0)] = (w.map f).take (k + 1) := by
  rw [List.take_add_one]
  simp [List.getD, h]
end Go.AV
namespace Go.AV
open Nat (reduceEqDiff reduceAdd reduceLeDiff reduceLT reduceMul reduceSub)
open List (set_cons_zero set_cons_succ)
/-plain-/
def runLm (m : Mly) : List Int := if validE m = 0 then (nmS (togB m) m.inp.toNat).1 else []
def runNm (m : Mly) : Int := if validE m = 0 then ((nmS (togB m) m.inp.toNat).2.length : Int) else 0
end Go.AV
namespace Go.AV
open Nat (reduceEqDiff reduceAdd reduceLeDiff reduceLT reduceMul reduceSub)
open List (set_cons_zero set_cons_succ)
/-plain-/
theorem nm_iff {T : Nat → Nat → Bool} {n c d : Nat} (hT : EQT T n) (hc : c < n) (hd : d < n) : (nmS T n).1.getD c 0 = (nmS T n).1.getD d 0 ↔ T c d = true := by
  have hp := nmp hT n (Nat.le_refl _)
  obtain ⟨r1, r2, r3⟩ := nmS_rng T n
  obtain ⟨c1, c2, c3⟩ := hp.at_ c hc
  obtain ⟨d1, d2, d3⟩ := hp.at_ d hd
  have hmc := r3 _ (getD_mem (w := (nmS T n).2) (i := ((nmS T n).1.getD c 0).toNat) (by omega))
  have hmd := r3 _ (getD_mem (w := (nmS T n).2) (i := ((nmS T n).1.getD d 0).toNat) (by omega))
  constructor
  · intro e
    rw [← e] at d3
    exact hT.tr c _ d hc (by omega) hd (hT.sy _ c (by omega) hc c3) d3
  · intro h
    have h1 := hT.tr _ c d (by omega) hc hd c3 h
    have h2 := hT.tr _ d _ (by omega) hd (by omega) h1 (hT.sy _ d (by omega) hd d3)
    rcases Nat.lt_trichotomy ((nmS T n).1.getD c 0).toNat ((nmS T n).1.getD d 0).toNat with hh | hh | hh
    · have := hp.ap _ _ hh (by omega)
      rw [h2] at this; cases this
    · omega
    · have h3 := hT.sy _ _ (by omega) (by omega) h2
      have := hp.ap _ _ hh (by omega)
      rw [h3] at this; cases this
structure RUN (m : Mly) : Prop where
  len : (runLm m).length = m.inp.toNat
  ce : cntE (runLm m) = 0
  ck : cntK (runLm m) = runNm m
  eq : ∀ c d : Nat, c < m.inp.toNat → d < m.inp.toNat → ((runLm m).getD c 0 = (runLm m).getD d 0 ↔ togB m c d = true)
  ch : chkE m (runLm m) = 0
  no : stpB m (runLm m) = false
theorem fin_none {m : Mly} {cl : List Int} (hk : COK m cl) (h : ∀ c d : Nat, c < m.inp.toNat → d < m.inp.toNat → cl.getD c 0 = cl.getD d 0 → togB m c d = true) : stpB m cl = false := by
  have hlen := hk.len
  unfold stpB
  split
  · cases hf : finI m cl with
    | none => rfl
    | some p =>
      exfalso
      obtain ⟨⟨p1, p2, p3⟩, p4, p5⟩ := finI_spec hf
      unfold parS at p5
      simp only [Bool.and_eq_true, Bool.not_eq_true', decide_eq_true_eq] at p5
      have h1 := togB_iff.1 (h p.2.1 p.2.2 (by omega) (by omega) p5.1) p.1 (by rw [fstX_len]; exact p1)
      rw [fstX_at p1, p5.2] at h1
      cases h1
  · rfl
theorem runs {m : Mly} (hm : MOK m) : RUN m := by
  have hi1 := hm.i1; have hi2 := hm.i2
  have hv := validE_of hm
  have eL : runLm m = (nmS (togB m) m.inp.toNat).1 := by unfold runLm; rw [if_pos hv]
  have eN : runNm m = ((nmS (togB m) m.inp.toNat).2.length : Int) := by unfold runNm; rw [if_pos hv]
  have hc := nm_cnt (togB m) (n := m.inp.toNat) (by omega) (by omega)
  have hr := nmS_rng (togB m) m.inp.toNat
  have hq : ∀ c d : Nat, c < m.inp.toNat → d < m.inp.toNat → ((runLm m).getD c 0 = (runLm m).getD d 0 ↔ togB m c d = true) := fun c d h1 h2 => by rw [eL]; exact nm_iff (togB_eqt m _) h1 h2
  have hl : (runLm m).length = m.inp.toNat := by rw [eL]; exact hr.1
  have hce : cntE (runLm m) = 0 := by rw [eL]; exact hc.1
  have hch : chkE m (runLm m) = 0 := by
    unfold chkE
    rw [if_neg (by simp [hv]), if_neg (by simp [hce]), if_pos (by omega)]
  exact ⟨hl, hce, by rw [eL, eN]; exact hc.2, hq, hch, fin_none (cok_of hch) fun c d h1 h2 e => (hq c d h1 h2).1 e⟩
theorem run_dec {m : Mly} (h : RUN m) {c d : Nat} (hc : c < m.inp.toNat) (hd : d < m.inp.toNat) : decide ((runLm m).getD c 0 = (runLm m).getD d 0) = togB m c d := by
  have := h.eq c d hc hd
  cases ht : togB m c d with
  | true => exact decide_eq_true (this.2 ht)
  | false => exact decide_eq_false fun hh => by rw [this.1 hh] at ht; cases ht
end Go.AV
namespace Go.AV
open Nat (reduceEqDiff reduceAdd reduceLeDiff reduceLT reduceMul reduceSub)
open List (set_cons_zero set_cons_succ)
/-plain-/
/-! ### repeating Step: every step divides a class, and the end is the list of Run -/
def isN (T : Nat → Nat → Bool) (c : Nat) : Bool := (List.range c).all fun d => !T d c
theorem isN_yes {T : Nat → Nat → Bool} {c : Nat} : isN T c = true ↔ ∀ d, d < c → T d c = false := by
  unfold isN; simp [List.all_eq_true]
theorem isN_no {T : Nat → Nat → Bool} {c d : Nat} (h : d < c) (ht : T d c = true) : isN T c = false := by
  cases hc : isN T c with
  | false => rfl
  | true => rw [isN_yes.1 hc d h] at ht; cases ht
theorem nm_count {T : Nat → Nat → Bool} {n : Nat} (hT : EQT T n) : ∀ c, c ≤ n → (nmS T c).2.length = (List.range c).countP (isN T)
  | 0, _ => rfl
  | c + 1, h => by
    have ih := nm_count hT c (by omega)
    rw [List.range_succ, List.countP_append, ← ih]
    cases hc : isN T c with
    | true =>
      have := nm_new (T := T) (c := c) (isN_yes.1 hc)
      rw [nmS_new (by omega)]
      simp [hc]
    | false =>
      have : ∃ d, d < c ∧ T d c = true := by
        refine Decidable.byContradiction fun hh => ?_
        have : isN T c = true := isN_yes.2 fun d hd => by
          cases ht : T d c with
          | false => rfl
          | true => exact absurd ⟨d, hd, ht⟩ hh
        rw [hc] at this; cases this
      obtain ⟨d, hd, ht⟩ := this
      have h1 := nm_old hT (by omega) hd ht
      have h2 := ((nmp hT c (by omega)).at_ d hd).1
      rw [nmS_old (by omega)]
      simp [hc]
theorem cP_le {p q : Nat → Bool} : ∀ n, (∀ x, x < n → p x = true → q x = true) → (List.range n).countP p ≤ (List.range n).countP q
  | 0, _ => Nat.le_refl _
  | n + 1, h => by
    have ih := cP_le (p := p) (q := q) n fun x hx => h x (by omega)
    rw [List.range_succ, List.countP_append, List.countP_append]
    have : [n].countP p ≤ [n].countP q := by
      cases hp : p n with
      | false => simp [hp]
      | true => simp [hp, h n (by omega) hp]
    omega
theorem cP_lt {p q : Nat → Bool} {c : Nat} (h1 : q c = true) (h2 : p c = false) : ∀ n, (∀ x, x < n → p x = true → q x = true) → c < n → (List.range n).countP p < (List.range n).countP q
  | n + 1, h, hc => by
    rw [List.range_succ, List.countP_append, List.countP_append]
    by_cases e : c = n
    · have ih := cP_le (p := p) (q := q) n fun x hx => h x (by omega)
      subst e
      have a1 : [c].countP p = 0 := by simp [h2]
      have a2 : [c].countP q = 1 := by simp [h1]
      omega
    · have ih := cP_lt h1 h2 n (fun x hx => h x (by omega)) (by omega)
      have : [n].countP p ≤ [n].countP q := by
        cases hp : p n with
        | false => simp [hp]
        | true => simp [hp, h n (by omega) hp]
      omega
theorem lst_isN {T : Nat → Nat → Bool} {n c : Nat} (hT : EQT T n) (hc : c < n) : isN T (lst T c) = true := by
  obtain ⟨c1, c2, c3⟩ := lst_spec hT hc
  refine isN_yes.2 fun d hd => ?_
  cases ht : T d (lst T c) with
  | false => rfl
  | true =>
    have := hT.tr c _ d hc (by omega) (by omega) c2 (hT.sy d _ (by omega) (by omega) ht)
    rw [c3 d hd] at this; cases this
theorem nm_more {T U : Nat → Nat → Bool} {n a b : Nat} (hT : EQT T n) (hU : EQT U n) (hf : ∀ d c, d < n → c < n → U d c = true → T d c = true) (ha : a < n) (hb : b < n) (ht : T a b = true) (hu : U a b = false) : (nmS T n).2.length < (nmS U n).2.length := by
  rw [nm_count hT n (Nat.le_refl _), nm_count hU n (Nat.le_refl _)]
  have mono : ∀ x, x < n → isN T x = true → isN U x = true := fun x hx h => isN_yes.2 fun d hd => by
    cases hc : U d x with
    | false => rfl
    | true => have := hf d x (by omega) hx hc; rw [isN_yes.1 h d hd] at this; cases this
  obtain ⟨a1, a2, a3⟩ := lst_spec hU ha
  obtain ⟨b1, b2, b3⟩ := lst_spec hU hb
  have hne : lst U a ≠ lst U b := fun e => by
    have := (lst_iff hU hb ha).1 e; rw [hu] at this; cases this
  have ta := hf a _ ha (by omega) a2
  have tb := hf b _ hb (by omega) b2
  have tab : T (lst U a) (lst U b) = true := hT.tr _ a _ (by omega) ha (by omega) (hT.sy a _ ha (by omega) ta) (hT.tr a b _ ha hb (by omega) ht tb)
  rcases Nat.lt_or_gt_of_ne hne with hh | hh
  · exact cP_lt (c := lst U b) (lst_isN hU hb) (isN_no hh tab) n mono (by omega)
  · exact cP_lt (c := lst U a) (lst_isN hU ha) (isN_no hh (hT.sy _ _ (by omega) (by omega) tab)) n mono (by omega)
theorem cN_onto {cl : List Int} (hb : ∀ q, q < cl.length → cBad cl q = false) : ∀ k, k ≤ cl.length → ∀ v, 0 ≤ v → v < cN cl k → ∃ q, q < k ∧ cl.getD q 0 = v
  | 0, _, v, h0, h1 => by simp only [cN] at h1; omega
  | k + 1, hk, v, h0, h1 => by
    have h2 := hb k (by omega)
    simp only [cBad, Bool.or_eq_false_iff, decide_eq_false_iff_not] at h2
    simp only [cN] at h1
    by_cases e : v < cN cl k
    · obtain ⟨q, q1, q2⟩ := cN_onto hb k (by omega) v h0 e
      exact ⟨q, by omega, q2⟩
    · exact ⟨k, by omega, by omega⟩
theorem cN_up (cl : List Int) : ∀ k q, q < k → cl.getD q 0 < cN cl k
  | 0, q, h => by omega
  | k + 1, q, h => by
    simp only [cN]
    by_cases e : q = k
    · rw [e]; omega
    · have := cN_up cl k q (by omega); omega
theorem canon {cl : List Int} (hb : ∀ q, q < cl.length → cBad cl q = false) : ∀ k, k ≤ cl.length → (nmS (eqL cl) k).1 = cl.take k ∧ ((nmS (eqL cl) k).2.length : Int) = cN cl k
  | 0, _ => ⟨by simp [nmS], rfl⟩
  | k + 1, hk => by
    obtain ⟨i1, i2⟩ := canon hb k (by omega)
    have h2 := hb k (by omega)
    simp only [cBad, Bool.or_eq_false_iff, decide_eq_false_iff_not] at h2
    have ht : cl.take (k + 1) = cl.take k ++ [cl.getD k 0] := take_succ_D (by omega)
    by_cases e : cl.getD k 0 = cN cl k
    · have hn := nm_new (T := eqL cl) (c := k) fun q hq => by
        have := cN_up cl k q hq
        simp only [eqL, decide_eq_false_iff_not]; omega
      rw [nmS_new (by omega), ht, i1]
      refine ⟨by rw [i2, e], ?_⟩
      simp only [List.length_append, List.length_cons, List.length_nil, cN]; omega
    · obtain ⟨q, q1, q2⟩ := cN_onto hb k (by omega) (cl.getD k 0) (by omega) (by omega)
      have ho := nm_old (eqL_eqt cl cl.length) (c := k) (q := q) (by omega) q1 (by simp only [eqL, decide_eq_true_eq]; exact q2)
      have hq : (nmS (eqL cl) k).1.getD q 0 = cl.getD k 0 := by
        rw [i1, ← q2]; simp [List.getD, q1]
      rw [hq] at ho
      rw [nmS_old (by omega), ht, i1, ho]
      refine ⟨rfl, ?_⟩
      rw [i2]; simp only [cN]; omega
theorem cN_nn (cl : List Int) : ∀ k, 0 ≤ cN cl k
  | 0 => Int.le_refl _
  | k + 1 => by have := cN_nn cl k; simp only [cN]; omega
structure STD (m : Mly) (C : List Int) (j : Nat) : Prop where
  len : C.length = m.inp.toNat
  ce : cntE C = 0
  co : ∀ c d : Nat, c < m.inp.toNat → d < m.inp.toNat → togB m c d = true → C.getD c 0 = C.getD d 0
  ct : (j : Int) + 1 ≤ cntK C
theorem std_cok {m : Mly} (hm : MOK m) {C : List Int} {j : Nat} (h : STD m C j) : COK m C := ⟨hm, h.ce, by have := hm.i1; have := h.len; omega⟩
theorem std_zero {m : Mly} (hm : MOK m) : STD m (List.replicate m.inp.toNat 0) 0 := by
  have hi1 := hm.i1; have hi2 := hm.i2
  have hl : (List.replicate m.inp.toNat (0 : Int)).length = m.inp.toNat := List.length_replicate
  have hc : cntE (List.replicate m.inp.toNat (0 : Int)) = 0 := cntE_ok (by omega) fun k _ => cBad_no (by rw [rep_at]; omega) (by rw [rep_at]; exact cN_nn _ _)
  refine ⟨hl, hc, fun c d _ _ _ => by rw [rep_at, rep_at], ?_⟩
  unfold cntK
  rw [if_pos hc, hl]
  have := cN_up (List.replicate m.inp.toNat (0 : Int)) m.inp.toNat 0 (by omega)
  rw [rep_at] at this
  omega
theorem std_cnt {m : Mly} (hm : MOK m) {C : List Int} {j : Nat} (h : STD m C j) : cntK C = ((nmS (eqL C) C.length).2.length : Int) ∧ (nmS (eqL C) C.length).1 = C ∧ cntK C ≤ m.inp := by
  have hi1 := hm.i1
  obtain ⟨h1, h2⟩ := cntE_zero h.ce
  obtain ⟨c1, c2⟩ := canon h2 C.length (Nat.le_refl _)
  have hl := h.len
  have hcl := cN_le h2 C.length (Nat.le_refl _)
  unfold cntK
  rw [if_pos h.ce]
  exact ⟨c2.symm, by rw [c1, List.take_length], by omega⟩
theorem spl_eqt (m : Mly) (C : List Int) (p : Nat × Nat × Nat) (n : Nat) : EQT (spl m C p) n where
  rf a _ := by simp [spl, agrS]
  sy a b _ _ h := by
    simp only [spl, agrS, Bool.and_eq_true, Bool.or_eq_true, Bool.not_eq_true', decide_eq_true_eq, decide_eq_false_iff_not] at h ⊢
    obtain ⟨h1, h2⟩ := h
    refine ⟨h1.symm, ?_⟩
    rcases h2 with h2 | h2
    · exact .inl (h1 ▸ h2)
    · exact .inr ⟨h2.1.symm, h2.2.symm⟩
  tr a b c _ _ _ h g := by
    simp only [spl, agrS, Bool.and_eq_true, Bool.or_eq_true, Bool.not_eq_true', decide_eq_true_eq, decide_eq_false_iff_not] at h g ⊢
    obtain ⟨h1, h2⟩ := h
    obtain ⟨g1, g2⟩ := g
    refine ⟨h1.trans g1, ?_⟩
    rcases h2 with h2 | h2
    · exact .inl h2
    · rcases g2 with g2 | g2
      · exact .inl (by rw [h1]; exact g2)
      · exact .inr ⟨h2.1.trans g2.1, h2.2.trans g2.2⟩
theorem std_step {m : Mly} (hm : MOK m) {C : List Int} {j : Nat} (h : STD m C j) (hb : stpB m C = true) : STD m (stpL m C) (j + 1) ∧ cntK C < cntK (stpL m C) := by
  have hk := std_cok hm h
  have hi1 := hm.i1; have hi2 := hm.i2
  have hch : chkE m C = 0 := by
    unfold chkE
    rw [if_neg (by simp [validE_of hm]), if_neg (by simp [hk.ce]), if_pos hk.len]
  unfold stpB at hb
  rw [if_pos hch] at hb
  obtain ⟨p, hp⟩ := Option.isSome_iff_exists.1 hb
  have e : stpL m C = (nmS (spl m C p) m.inp.toNat).1 := by unfold stpL; rw [if_pos hch, hp]
  rw [e]
  obtain ⟨⟨p1, p2, p3⟩, p4, p5⟩ := finI_spec hp
  unfold parS at p5
  simp only [Bool.and_eq_true, Bool.not_eq_true', decide_eq_true_eq] at p5
  have hl := h.len
  have hr := nmS_rng (spl m C p) m.inp.toNat
  have hc := nm_cnt (spl m C p) (n := m.inp.toNat) (by omega) (by omega)
  obtain ⟨s1, s2, s3⟩ := std_cnt hm h
  have hmore : (nmS (eqL C) m.inp.toNat).2.length < (nmS (spl m C p) m.inp.toNat).2.length := by
    refine nm_more (a := p.2.1) (b := p.2.2) (eqL_eqt C _) (spl_eqt m C p _) (fun d c _ _ hu => ?_) (by omega) (by omega) (by simp only [eqL, decide_eq_true_eq]; exact p5.1) ?_
    · simp only [spl, Bool.and_eq_true, decide_eq_true_eq] at hu
      simp only [eqL, decide_eq_true_eq]; exact hu.1
    · unfold spl
      rw [p5.2, show decide (C.getD p.2.1 0 = C.getD p.2.1 0) = true from decide_eq_true rfl]; simp
  rw [hl] at s1
  have hlt : cntK C < cntK (nmS (spl m C p) m.inp.toNat).1 := by rw [hc.2]; omega
  refine ⟨⟨hr.1, hc.1, fun c d h1 h2 ht => ?_, by have := h.ct; omega⟩, hlt⟩
  rw [nm_iff (spl_eqt m C p _) h1 h2]
  have hq := togB_iff.1 ht p.1 (by rw [fstX_len]; exact p1)
  rw [fstX_at p1] at hq
  simp only [spl, Bool.and_eq_true, Bool.or_eq_true, decide_eq_true_eq]
  exact ⟨h.co c d h1 h2 ht, .inr hq⟩
theorem finI_none {m : Mly} {cl : List Int} (h : finI m cl = none) {i c d : Nat} (hi : i < m.exR.length) (hcd : c < d) (hd : d < cl.length) : parS m cl (m.exR.getD i eX0).1 c d = false := by
  unfold finI at h
  have h1 := List.findSome?_eq_none_iff.1 h i (by simpa using hi)
  have h2 : finC m cl (m.exR.getD i eX0).1 = none := by simpa using h1
  unfold finC at h2
  have h3 := List.findSome?_eq_none_iff.1 h2 c (by simp; omega)
  have h4 : finD m cl (m.exR.getD i eX0).1 c = none := by simpa using h3
  unfold finD at h4
  have h5 := List.find?_eq_none.1 h4 d (by simpa using hd)
  simpa [hcd] using h5
theorem std_end {m : Mly} (hm : MOK m) {C : List Int} {j : Nat} (h : STD m C j) (hb : stpB m C = false) : C = runLm m ∧ cntK C = runNm m ∧ stpL m C = C := by
  have hk := std_cok hm h
  have hi1 := hm.i1
  have hl := h.len
  have hch : chkE m C = 0 := by
    unfold chkE
    rw [if_neg (by simp [validE_of hm]), if_neg (by simp [hk.ce]), if_pos hk.len]
  unfold stpB at hb
  rw [if_pos hch] at hb
  have hn : finI m C = none := by cases hf : finI m C with
    | none => rfl
    | some p => rw [hf] at hb; cases hb
  have lt : ∀ c d : Nat, c < d → d < m.inp.toNat → C.getD c 0 = C.getD d 0 → togB m c d = true := fun c d h1 h2 e => togB_iff.2 fun k hk2 => by
    rw [fstX_len] at hk2
    have := finI_none hn (i := k) hk2 h1 (by omega)
    unfold parS at this
    rw [decide_eq_true e] at this
    rw [fstX_at hk2]
    simpa using this
  have hcon : nmS (eqL C) m.inp.toNat = nmS (togB m) m.inp.toNat := nmS_congr _ fun d q h1 h2 => by
    unfold eqL
    cases ht : togB m d q with
    | true => exact decide_eq_true (h.co d q (by omega) h2 ht)
    | false => exact decide_eq_false fun e => by rw [lt d q h1 h2 e] at ht; cases ht
  obtain ⟨s1, s2, s3⟩ := std_cnt hm h
  rw [hl] at s1 s2
  have hv := validE_of hm
  refine ⟨by unfold runLm; rw [if_pos hv, ← hcon]; exact s2.symm, by unfold runNm; rw [if_pos hv, ← hcon]; exact s1, ?_⟩
  unfold stpL
  rw [if_pos hch, hn]
theorem chk_of {m : Mly} {C : List Int} (hk : COK m C) : chkE m C = 0 := by
  unfold chkE
  rw [if_neg (by simp [validE_of hk.ok]), if_neg (by simp [hk.ce]), if_pos hk.len]
end Go.AV
namespace Go.AV
open Nat (reduceEqDiff reduceAdd reduceLeDiff reduceLT reduceMul reduceSub)
open List (set_cons_zero set_cons_succ)
/-plain-/
/-! ### the machine over the classes of equivalent states -/
theorem nextL_can (m : Mly) (cl : List Int) : ∀ k, k ≤ m.nx.length → cN (m.nextL cl) k = ((difs (m.sig cl) k).length : Int) ∧ ∀ q, q < k → cBad (m.nextL cl) q = false
  | 0, _ => ⟨by simp [cN, difs], fun q h => by omega⟩
  | k + 1, h => by
    obtain ⟨i1, i2⟩ := nextL_can m cl k (by omega)
    have hv := nextL_at (cl := cl) (s := k) (by omega : k < m.nx.length)
    by_cases hs : m.sig cl k ∈ difs (m.sig cl) k
    · have h1 := next_old (cl := cl) (by omega : k < m.nx.length) hs
      have h2 := pos_lt hs
      rw [h1] at hv
      refine ⟨?_, fun q hq => ?_⟩
      · rw [difs_succ, addG_in hs]; simp only [cN]; omega
      · by_cases e : q = k
        · subst e; exact cBad_no (by omega) (by omega)
        · exact i2 q (by omega)
    · have h1 := next_new (cl := cl) (by omega : k < m.nx.length) hs
      rw [h1] at hv
      refine ⟨?_, fun q hq => ?_⟩
      · rw [difs_succ, addG_out hs, List.length_append]; simp only [cN, List.length_cons, List.length_nil]; omega
      · by_cases e : q = k
        · subst e; exact cBad_no (by omega) (by omega)
        · exact i2 q (by omega)
theorem eqc_can {m : Mly} (hm : MOK m) : ∀ q, q < m.eqc.length → cBad m.eqc q = false := by
  obtain ⟨j, h1, h2, h3⟩ := eqc_stop hm
  rw [h1, cls_len]
  cases j with
  | zero => exact fun q hq => cBad_no (by show 0 ≤ (List.replicate _ (0 : Int)).getD q 0; rw [rep_at]; omega) (by show (List.replicate _ (0 : Int)).getD q 0 ≤ _; rw [rep_at]; exact cN_nn _ _)
  | succ i => exact (nextL_can m (m.cls i) m.nx.length (Nat.le_refl _)).2
def repL (c : List Int) (k : Nat) : List Nat := (List.range k).filter fun s => decide (c.getD s 0 = cN c s)
theorem repL_new {c : List Int} {k : Nat} (h : c.getD k 0 = cN c k) : repL c (k + 1) = repL c k ++ [k] := by
  unfold repL; rw [List.range_succ, List.filter_append]; simp only [List.filter_cons, List.filter_nil, h, decide_true, if_true]
theorem repL_old {c : List Int} {k : Nat} (h : ¬ c.getD k 0 = cN c k) : repL c (k + 1) = repL c k := by
  unfold repL; rw [List.range_succ, List.filter_append]; simp only [List.filter_cons, List.filter_nil, decide_eq_false h, Bool.false_eq_true, if_false, List.append_nil]
structure REP (c : List Int) (k : Nat) : Prop where
  len : ((repL c k).length : Int) = cN c k
  at_ : ∀ r, r < (repL c k).length → (repL c k).getD r 0 < k ∧ c.getD ((repL c k).getD r 0) 0 = r
theorem getDN_left {xs ys : List Nat} {i : Nat} (h : i < xs.length) : (xs ++ ys).getD i 0 = xs.getD i 0 := by simp [List.getD, List.getElem?_append_left h]
theorem rep_ok {c : List Int} (hb : ∀ q, q < c.length → cBad c q = false) : ∀ k, k ≤ c.length → REP c k
  | 0, _ => ⟨rfl, fun r h => by simp [repL] at h⟩
  | k + 1, h => by
    have ih := rep_ok hb k (by omega)
    have h1 := hb k (by omega)
    simp only [cBad, Bool.or_eq_false_iff, decide_eq_false_iff_not] at h1
    have hl := ih.len
    by_cases e : c.getD k 0 = cN c k
    · rw [show REP c (k + 1) = REP c (k + 1) from rfl]
      refine ⟨?_, fun r hr => ?_⟩
      · rw [repL_new e, List.length_append]; simp only [List.length_cons, List.length_nil, cN]; omega
      · rw [repL_new e] at hr ⊢
        rw [List.length_append] at hr; simp only [List.length_cons, List.length_nil] at hr
        by_cases e2 : r = (repL c k).length
        · have : (repL c k ++ [k]).getD r 0 = k := by subst e2; simp [List.getD]
          rw [this]; exact ⟨by omega, by omega⟩
        · rw [getDN_left (by omega)]
          have := ih.at_ r (by omega)
          exact ⟨by omega, this.2⟩
    · refine ⟨?_, fun r hr => ?_⟩
      · rw [repL_old e]; simp only [cN]; omega
      · rw [repL_old e] at hr ⊢
        have := ih.at_ r hr
        exact ⟨by omega, this.2⟩
def Mly.f (t : Mly) (x : Int) : Int := t.eqc.getD x.toNat 0
def Mly.reps (t : Mly) : List Nat := repL t.eqc t.nx.length
def Mly.qm (t : Mly) : Mly := ⟨t.inp, 0, t.reps.map (fun s => (t.nx.getD s []).map t.f), t.reps.map fun s => t.ot.getD s []⟩
theorem reps_ok {t : Mly} (ht : MOK t) : REP t.eqc t.nx.length := by
  have hl := (eqc_stab ht).len
  have := rep_ok (eqc_can ht) t.nx.length (by omega)
  exact this
theorem q_len (t : Mly) : t.qm.nx.length = t.reps.length := by simp [Mly.qm]
theorem q_row {t : Mly} {r : Nat} (h : r < t.reps.length) : t.qm.nx.getD r [] = (t.nx.getD (t.reps.getD r 0) []).map t.f := by
  show (t.reps.map _).getD r [] = _
  rw [getD_map _ 0 _ h]
theorem q_out {t : Mly} {r : Nat} (h : r < t.reps.length) : t.qm.ot.getD r [] = t.ot.getD (t.reps.getD r 0) [] := by
  show (t.reps.map _).getD r [] = _
  rw [getD_map _ 0 _ h]
theorem f_rng {t : Mly} (ht : MOK t) {s : Int} (h0 : 0 ≤ s) (h1 : s < t.nx.length) : 0 ≤ t.f s ∧ t.f s < t.reps.length := by
  have hl := (reps_ok ht).len
  have := cN_up t.eqc t.nx.length s.toNat (by omega)
  have h2 := (eqc_stab ht).rng s.toNat (by omega)
  unfold Mly.f Mly.reps
  omega
theorem rep_f {t : Mly} (ht : MOK t) {s : Int} (h0 : 0 ≤ s) (h1 : s < t.nx.length) : t.reps.getD (t.f s).toNat 0 < t.nx.length ∧ t.f (t.reps.getD (t.f s).toNat 0 : Nat) = t.f s := by
  have hf := f_rng ht h0 h1
  have := (reps_ok ht).at_ (t.f s).toNat (by have := hf.2; unfold Mly.reps at this; omega)
  refine ⟨this.1, ?_⟩
  show t.eqc.getD ((t.reps.getD (t.f s).toNat 0 : Nat) : Int).toNat 0 = _
  rw [Int.toNat_natCast]
  have h2 := this.2
  unfold Mly.reps
  rw [h2]; omega
theorem q_ok {t : Mly} (ht : MOK t) : MOK t.qm := by
  have hq := q_len t
  have hr := reps_ok ht
  have hn1 := ht.n1; have hn2 := ht.n2
  have h0 := f_rng ht (s := 0) (by omega) (by omega)
  have hle : t.reps.length ≤ t.nx.length := by
    unfold Mly.reps repL
    exact Nat.le_trans (List.length_filter_le _ _) (by simp)
  have hol : t.qm.ot.length = t.reps.length := by simp [Mly.qm]
  have hat : ∀ r, r < t.reps.length → t.reps.getD r 0 < t.nx.length := fun r h => (hr.at_ r h).1
  refine ⟨ht.i1, ht.i2, by omega, by omega, Int.le_refl 0, by show (0 : Int) < _; omega, by omega, fun s hs => ?_, fun s hs => ?_, fun s a hs ha => ?_, fun s a hs ha => ?_⟩
  · rw [q_row (by omega), List.length_map]
    exact ht.rl _ (hat s (by omega))
  · rw [q_out (by omega)]
    exact ht.ql _ (hat s (by omega))
  · have ha' : (a : Int) < t.inp := ha
    have h1 := ht.rl _ (hat s (by omega))
    rw [q_row (by omega), getD_map t.f 0 0 (by omega)]
    have h2 := ht.nr _ a (hat s (by omega)) ha'
    have := f_rng ht h2.1 h2.2
    omega
  · rw [q_out (by omega)]
    exact ht.or _ a (hat s (by omega)) ha
/-- One step of both. -/
theorem q_step {t : Mly} (ht : MOK t) {s a : Int} (h0 : 0 ≤ s) (h1 : s < t.nx.length) (ha : 0 ≤ a ∧ a < t.inp) : t.qm.out (t.f s) a = t.out s a ∧ t.qm.nxt (t.f s) a = t.f (t.nxt s a) := by
  have hf := f_rng ht h0 h1
  obtain ⟨r1, r2⟩ := rep_f ht h0 h1
  have e : t.eqc.getD (t.reps.getD (t.f s).toNat 0) 0 = t.eqc.getD s.toNat 0 := by
    have := r2
    unfold Mly.f at this
    rw [Int.toNat_natCast] at this
    exact this
  have hst := (eqc_stab ht).step _ s.toNat r1 (by omega) e a.toNat (by omega)
  have hrl := ht.rl _ r1
  constructor
  · show (t.qm.ot.getD (t.f s).toNat []).getD a.toNat 0 = _
    rw [q_out (by omega), hst.1]; rfl
  · show (t.qm.nx.getD (t.f s).toNat []).getD a.toNat 0 = _
    rw [q_row (by omega), getD_map t.f 0 0 (by omega)]
    exact hst.2
theorem q_go {t : Mly} (ht : MOK t) : ∀ (w : List Int) (s : Int), 0 ≤ s → s < t.nx.length → (∀ i : Nat, i < w.length → 0 ≤ w.getD i 0 ∧ w.getD i 0 < t.inp) → (t.qm.go (t.f s) w).2 = (t.go s w).2
  | [], s, _, _, _ => rfl
  | a :: w, s, h0, h1, hw => by
    obtain ⟨ha, hw2⟩ := syms_tail hw
    obtain ⟨e1, e2⟩ := q_step ht h0 h1 ha
    rw [go_cons, go_cons, e1, e2]
    have hn := ht.nr s.toNat a.toNat (by omega) (by omega)
    have := q_go ht w (t.nxt s a) hn.1 hn.2 hw2
    rw [this]
theorem q_ds {t : Mly} (ht : MOK t) : ∀ i j : Int, 0 ≤ i → i < t.qm.nx.length → 0 ≤ j → j < t.qm.nx.length → EQV t.qm i j → i = j := by
  intro i j i0 i1 j0 j1 h
  have hq := q_len t
  have ri := (reps_ok ht).at_ i.toNat (by unfold Mly.reps at hq; omega)
  have rj := (reps_ok ht).at_ j.toNat (by unfold Mly.reps at hq; omega)
  have fi : t.f (((repL t.eqc t.nx.length).getD i.toNat 0 : Nat) : Int) = i := by unfold Mly.f; rw [Int.toNat_natCast, ri.2]; omega
  have fj : t.f (((repL t.eqc t.nx.length).getD j.toNat 0 : Nat) : Int) = j := by unfold Mly.f; rw [Int.toNat_natCast, rj.2]; omega
  have hv : EQV t (((repL t.eqc t.nx.length).getD i.toNat 0 : Nat) : Int) (((repL t.eqc t.nx.length).getD j.toNat 0 : Nat) : Int) := fun w hw => by
    have g1 := q_go ht w (((repL t.eqc t.nx.length).getD i.toNat 0 : Nat) : Int) (Int.natCast_nonneg _) (by have := ri.1; omega) hw
    have g2 := q_go ht w (((repL t.eqc t.nx.length).getD j.toNat 0 : Nat) : Int) (Int.natCast_nonneg _) (by have := rj.1; omega) hw
    rw [fi] at g1; rw [fj] at g2
    rw [← g1, ← g2]
    exact h w hw
  have := (eqc_iff ht (Int.natCast_nonneg _) (by have := ri.1; omega) (Int.natCast_nonneg _) (by have := rj.1; omega)).2 hv
  rw [← fi, ← fj]; exact this
end Go.AV
namespace Go.AV
open Nat (reduceEqDiff reduceAdd reduceLeDiff reduceLT reduceMul reduceSub)
open List (set_cons_zero set_cons_succ)
/-plain-/
/-! ### the document's Step -/
def oV (m : Mly) (cl : List Int) (p : Nat × Nat × Nat) (q : Nat) : Int := if cl.getD q 0 = cl.getD p.2.1 0 then m.inp + (lst (spl m cl p) q : Int) else cl.getD q 0
def oL (m : Mly) (cl : List Int) (p : Nat × Nat × Nat) (c : Nat) : List Int := (List.range cl.length).map fun q => if q < c then oV m cl p q else cl.getD q 0
theorem oL_len (m : Mly) (cl : List Int) (p : Nat × Nat × Nat) (c : Nat) : (oL m cl p c).length = cl.length := by simp [oL]
theorem oL_at {m : Mly} {cl : List Int} {p : Nat × Nat × Nat} {c q : Nat} (h : q < cl.length) : (oL m cl p c).getD q 0 = if q < c then oV m cl p q else cl.getD q 0 := by simp [oL, List.getD, h]
theorem ext_D {xs ys : List Int} (h : xs.length = ys.length) (h2 : ∀ i, i < xs.length → xs.getD i 0 = ys.getD i 0) : xs = ys := by
  refine List.ext_getElem h fun i h1 h3 => ?_
  have := h2 i h1
  simpa [List.getD, h1, h3] using this
theorem oL_zero (m : Mly) (cl : List Int) (p : Nat × Nat × Nat) : oL m cl p 0 = cl := ext_D (oL_len ..) fun i hi => by
  rw [oL_len] at hi
  rw [oL_at hi, if_neg (by omega)]
theorem getD_set {xs : List Int} {i j : Nat} {x : Int} (h : j < xs.length) : (xs.set i x).getD j 0 = if i = j then x else xs.getD j 0 := by
  by_cases e : i = j
  · subst e; simp [List.getD, h]
  · simp [List.getD, e]
theorem oL_set {m : Mly} {cl : List Int} {p : Nat × Nat × Nat} {c : Nat} (hc : c < cl.length) : (oL m cl p c).set c (oV m cl p c) = oL m cl p (c + 1) := ext_D (by rw [List.length_set, oL_len, oL_len]) fun i hi => by
  rw [List.length_set, oL_len] at hi
  rw [getD_set (by rw [oL_len]; exact hi), oL_at hi, oL_at hi]
  by_cases e : c = i
  · subst e; rw [if_pos rfl, if_pos (by omega)]
  · rw [if_neg e]
    by_cases e2 : i < c
    · rw [if_pos e2, if_pos (by omega)]
    · rw [if_neg e2, if_neg (by omega)]
theorem oL_skip {m : Mly} {cl : List Int} {p : Nat × Nat × Nat} {c : Nat} (h : ¬ cl.getD c 0 = cl.getD p.2.1 0) : oL m cl p (c + 1) = oL m cl p c := ext_D (by rw [oL_len, oL_len]) fun i hi => by
  rw [oL_len] at hi
  rw [oL_at hi, oL_at hi]
  by_cases e : i = c
  · subst e; rw [if_pos (by omega), if_neg (by omega)]; unfold oV; rw [if_neg h]
  · by_cases e2 : i < c
    · rw [if_pos e2, if_pos (by omega)]
    · rw [if_neg e2, if_neg (by omega)]
def LKQ (T : Nat → Nat → Bool) (c e : Nat) (k : Int) : Prop := (k = (c : Int) ∧ ∀ q, e ≤ q → q < c → T c q = false) ∨ ∃ q : Nat, e ≤ q ∧ q < c ∧ T c q = true ∧ k = (lst T q : Int) ∧ ∀ r, e ≤ r → r < q → T c r = false
theorem lkq_top (T : Nat → Nat → Bool) (c : Nat) : LKQ T c c c := .inl ⟨rfl, fun q h1 h2 => by omega⟩
theorem lkq_hit {T : Nat → Nat → Bool} {c e : Nat} (hc : e < c) (h : T c e = true) : LKQ T c e (lst T e : Int) := .inr ⟨e, Nat.le_refl _, hc, h, rfl, fun r h1 h2 => by omega⟩
theorem lkq_miss {T : Nat → Nat → Bool} {c e : Nat} {k : Int} (h0 : LKQ T c (e + 1) k) (h : T c e = false) : LKQ T c e k := by
  rcases h0 with ⟨h1, h2⟩ | ⟨q, h1, h2, h3, h4, h5⟩
  · refine .inl ⟨h1, fun q q1 q2 => ?_⟩
    by_cases e1 : q = e
    · rw [e1]; exact h
    · exact h2 q (by omega) q2
  · refine .inr ⟨q, by omega, h2, h3, h4, fun r r1 r2 => ?_⟩
    by_cases e1 : r = e
    · rw [e1]; exact h
    · exact h5 r (by omega) r2
theorem lkq_end {T : Nat → Nat → Bool} {n c : Nat} {k : Int} (hT : EQT T n) (hc : c < n) (h : LKQ T c 0 k) : k = (lst T c : Int) := by
  rcases h with ⟨h1, h2⟩ | ⟨q, h1, h2, h3, h4, h5⟩
  · unfold lst
    rw [find_none fun y hy => h2 y (by omega) hy]; exact h1
  · rw [h4, (lst_iff hT hc (by omega)).2 (hT.sy c q hc (by omega) h3)]
theorem o_num {m : Mly} {cl : List Int} {p : Nat × Nat × Nat} (hk : COK m cl) (hp : p.2.1 < cl.length) : nmS (eqL (oL m cl p cl.length)) m.inp.toNat = nmS (spl m cl p) m.inp.toNat := by
  have hlen := hk.len
  obtain ⟨⟨l1, l2⟩, hb⟩ := cntE_zero hk.ce
  have hT := spl_eqt m cl p m.inp.toNat
  have rng : ∀ q, q < cl.length → cl.getD q 0 < m.inp := fun q hq => by
    have h1 := hb q hq
    simp only [cBad, Bool.or_eq_false_iff, decide_eq_false_iff_not] at h1
    have h2 := cN_le hb q (by omega)
    omega
  refine nmS_congr _ fun d q h1 h2 => ?_
  unfold eqL
  rw [oL_at (by omega), oL_at (by omega), if_pos (by omega), if_pos (by omega)]
  have r1 := rng d (by omega); have r2 := rng q (by omega)
  unfold oV
  by_cases a : cl.getD d 0 = cl.getD p.2.1 0
  · by_cases b : cl.getD q 0 = cl.getD p.2.1 0
    · rw [if_pos a, if_pos b]
      have hi := lst_iff hT (c := q) (d := d) h2 (by omega)
      cases hs : spl m cl p d q with
      | true => rw [hi.2 hs]; exact decide_eq_true rfl
      | false => exact decide_eq_false fun e => by rw [hi.1 (by omega)] at hs; cases hs
    · rw [if_pos a, if_neg b, decide_eq_false (by omega)]
      unfold spl
      rw [decide_eq_false (show ¬ cl.getD d 0 = cl.getD q 0 from fun e => b (by rw [← e]; exact a))]; rfl
  · by_cases b : cl.getD q 0 = cl.getD p.2.1 0
    · rw [if_neg a, if_pos b, decide_eq_false (by omega)]
      unfold spl
      rw [decide_eq_false (show ¬ cl.getD d 0 = cl.getD q 0 from fun e => a (by rw [e]; exact b))]; rfl
    · rw [if_neg a, if_neg b]
      unfold spl
      rw [decide_eq_false a]; simp
theorem spl_K {m : Mly} {cl : List Int} {p : Nat × Nat × Nat} {c d : Nat} (h : cl.getD c 0 = cl.getD p.2.1 0) : spl m cl p c d = (decide (cl.getD d 0 = cl.getD p.2.1 0) && agrS m (m.exR.getD p.1 eX0).1 c d) := by
  unfold spl
  rw [decide_eq_true h, h, Bool.not_true, Bool.false_or]
  congr 1
  exact decide_eq_decide.2 ⟨fun e => e.symm, fun e => e.symm⟩
end Go.AV
namespace Go.AV
open Nat (reduceEqDiff reduceAdd reduceLeDiff reduceLT reduceMul reduceSub)
open List (set_cons_zero set_cons_succ)
/-plain-/
/-! ### the machine over the classes is numbered in the order of its access words -/
def dd (f : Int → Int) (l : List Int) : List Int := (l.map f).foldl addS []
theorem dd_app (f : Int → Int) (l : List Int) (x : Int) : dd f (l ++ [x]) = addS (dd f l) (f x) := by
  unfold dd; rw [List.map_append, List.foldl_append]; rfl
theorem dd_mem {f : Int → Int} {l : List Int} {y : Int} : y ∈ dd f l ↔ ∃ x, x ∈ l ∧ f x = y := by
  unfold dd; rw [foldS_mem, List.mem_map]; simp
theorem dd_fold (f : Int → Int) : ∀ (r l : List Int), (r.map f).foldl addS (dd f l) = dd f (r.foldl addS l)
  | [], _ => rfl
  | x :: r, l => by
    rw [List.map_cons, List.foldl_cons, List.foldl_cons, ← dd_fold f r (addS l x)]
    congr 1
    by_cases h : x ∈ l
    · rw [addS_in h, addS_in (dd_mem.2 ⟨x, h, rfl⟩)]
    · rw [addS_out h, dd_app]
theorem fold_in : ∀ (r l : List Int), (∀ x, x ∈ r → x ∈ l) → r.foldl addS l = l
  | [], _, _ => rfl
  | x :: r, l, h => by
    rw [List.foldl_cons, addS_in (h x (by simp))]
    exact fold_in r l fun y hy => h y (by simp [hy])
theorem cN_mono (c : List Int) {a : Nat} : ∀ {b : Nat}, a ≤ b → cN c a ≤ cN c b
  | 0, h => by
    have : a = 0 := by omega
    subst this; exact Int.le_refl _
  | b + 1, h => by
    by_cases e : a = b + 1
    · subst e; exact Int.le_refl _
    · have := cN_mono c (a := a) (b := b) (by omega)
      simp only [cN]; omega
theorem dd_can {t : Mly} (ht : MOK t) : ∀ k, k ≤ t.nx.length → dd t.f (rgI k) = rgI (cN t.eqc k).toNat
  | 0, _ => rfl
  | k + 1, h => by
    have hl := (eqc_stab ht).len
    have h1 := eqc_can ht k (by omega)
    simp only [cBad, Bool.or_eq_false_iff, decide_eq_false_iff_not] at h1
    have hn := cN_nn t.eqc k
    have hf : t.f (k : Int) = t.eqc.getD k 0 := by unfold Mly.f; rw [Int.toNat_natCast]
    rw [rgI_succ, dd_app, dd_can ht k (by omega), hf]
    by_cases e : t.eqc.getD k 0 = cN t.eqc k
    · rw [addS_out (fun hm => by have := rgI_mem.1 hm; omega), show (cN t.eqc (k + 1)).toNat = (cN t.eqc k).toNat + 1 by simp only [cN]; omega, rgI_succ, e, Int.toNat_of_nonneg hn]
    · rw [addS_in (rgI_mem.2 ⟨by omega, by omega⟩), show (cN t.eqc (k + 1)).toNat = (cN t.eqc k).toNat by simp only [cN]; omega]
theorem q_row_f {t : Mly} (ht : MOK t) {s : Int} (h0 : 0 ≤ s) (h1 : s < t.nx.length) : t.qm.row (t.f s) = (t.row s).map t.f := by
  have hf := f_rng ht h0 h1
  have hq := q_len t
  have hi1 := ht.i1
  have r1 : ((t.qm.row (t.f s)).length : Int) = t.inp := (q_ok ht).rl (t.f s).toNat (by omega)
  have r2 : ((t.row s).length : Int) = t.inp := ht.rl s.toNat (by omega)
  refine ext_D (by rw [List.length_map]; omega) fun a ha => ?_
  rw [getD_map t.f 0 0 (by omega)]
  have := (q_step ht h0 h1 (a := (a : Int)) ⟨by omega, by omega⟩).2
  exact this
theorem q_rf {t : Mly} (ht : MOK t) (hr : t.reach = rgI t.nx.length) : ∀ (g i : Nat) (L : List Int), t.nx.length < g + i → t.rf g i L = t.reach → L = rgI L.length → L.length ≤ t.nx.length → i ≤ L.length →
    (∀ j : Nat, j < i → ∀ x, x ∈ t.row j → x ∈ L) → ∀ F, t.reps.length < F + (cN t.eqc i).toNat → t.qm.rf F (cN t.eqc i).toNat (dd t.f L) = dd t.f t.reach
  | 0, i, L, hg, _, _, hL, hi, _, F, _ => by omega
  | g + 1, i, L, hg, hrf, hp, hL, hi, hcl, F, hF => by
    have hlen := (eqc_stab ht).len
    have hK := (reps_ok ht).len
    have hnn := cN_nn t.eqc i
    have hdd : dd t.f L = rgI (cN t.eqc L.length).toNat := by
      have := dd_can ht L.length hL
      rwa [← hp] at this
    by_cases hil : i < L.length
    · have hLi : L.getD i 0 = (i : Int) := by rw [hp]; exact rgI_at hil
      rw [rf_step t g i L hil, hLi] at hrf
      have hmi : (i : Int) ∈ L := by rw [← hLi]; exact getD_mem hil
      have h1 := eqc_can ht i (by omega)
      simp only [cBad, Bool.or_eq_false_iff, decide_eq_false_iff_not] at h1
      have hm1 := cN_mono t.eqc (a := i + 1) (b := L.length) (by omega)
      have hm2 := cN_mono t.eqc (a := i) (b := t.nx.length) (by omega)
      have hpre : ∃ k, (t.row i).foldl addS L ++ k = rgI t.nx.length := by
        obtain ⟨k, e⟩ := rf_pre t g (i + 1) ((t.row i).foldl addS L)
        exact ⟨k, by rw [← e, hrf, hr]⟩
      obtain ⟨k, hk⟩ := hpre
      have hp2 := rgI_pre hk
      have hL2 : ((t.row i).foldl addS L).length ≤ t.nx.length := by
        have := congrArg List.length hk
        rw [List.length_append, rgI_len] at this; omega
      have hge := fold_len_le (t.row i) L
      have hcl2 : ∀ j : Nat, j < i + 1 → ∀ x, x ∈ t.row j → x ∈ (t.row i).foldl addS L := fun j hj x hx => by
        by_cases e : j = i
        · subst e; exact foldS_mem.2 (.inr hx)
        · exact foldS_mem.2 (.inl (hcl j (by omega) x hx))
      have hfi : t.f (i : Int) = t.eqc.getD i 0 := by unfold Mly.f; rw [Int.toNat_natCast]
      have hfold := dd_fold t.f (t.row i) L
      by_cases e : t.eqc.getD i 0 = cN t.eqc i
      · have ec : (cN t.eqc (i + 1)).toNat = (cN t.eqc i).toNat + 1 := by simp only [cN]; omega
        have hKb : (cN t.eqc i).toNat < t.reps.length := by
          have := cN_mono t.eqc (a := i + 1) (b := t.nx.length) (by omega)
          unfold Mly.reps; omega
        obtain ⟨F2, rfl⟩ : ∃ F2, F = F2 + 1 := ⟨F - 1, by omega⟩
        have hlt : (cN t.eqc i).toNat < (dd t.f L).length := by rw [hdd, rgI_len]; omega
        rw [rf_step t.qm F2 _ _ hlt]
        have hat : (dd t.f L).getD (cN t.eqc i).toNat 0 = t.f (i : Int) := by
          rw [hdd, rgI_at (by rw [hdd, rgI_len] at hlt; exact hlt), hfi]; omega
        rw [hat, q_row_f ht (by omega) (by omega), hfold, ← ec]
        exact q_rf ht hr g (i + 1) _ (by omega) hrf hp2 hL2 (by omega) hcl2 F2 (by omega)
      · have ec : (cN t.eqc (i + 1)).toNat = (cN t.eqc i).toNat := by simp only [cN]; omega
        obtain ⟨q, q1, q2⟩ := cN_onto (eqc_can ht) i (by omega) (t.eqc.getD i 0) (by omega) (by omega)
        have hfq : t.f (q : Int) = t.f (i : Int) := by rw [hfi, ← q2]; unfold Mly.f; rw [Int.toNat_natCast]
        have hrow : (t.row i).map t.f = (t.row q).map t.f := by
          rw [← q_row_f ht (by omega) (by omega), ← q_row_f ht (by omega) (by omega), hfq]
        have hin : ((t.row i).map t.f).foldl addS (dd t.f L) = dd t.f L := fold_in _ _ fun y hy => by
          rw [hrow, List.mem_map] at hy
          obtain ⟨x, hx, rfl⟩ := hy
          exact dd_mem.2 ⟨x, hcl q q1 x hx, rfl⟩
        rw [hfold] at hin
        rw [← hin, ← ec]
        exact q_rf ht hr g (i + 1) _ (by omega) hrf hp2 hL2 (by omega) hcl2 F (by omega)
    · have hie : i = L.length := by omega
      rw [rf_end t _ _ _ (by omega)] at hrf
      rw [rf_end t.qm _ _ _ (by rw [hdd, rgI_len, hie]; exact Nat.le_refl _), ← hrf]
theorem q_can {t : Mly} (ht : MOK t) (hs : t.st = 0) (hr : t.reach = rgI t.nx.length) : CAN t.qm := by
  have hlen := (eqc_stab ht).len
  have hn1 := ht.n1
  have hK := (reps_ok ht).len
  refine ⟨q_ok ht, rfl, ?_, q_ds ht⟩
  have h0 := eqc_can ht 0 (by omega)
  simp only [cBad, Bool.or_eq_false_iff, decide_eq_false_iff_not] at h0
  have hz0 : cN t.eqc 0 = 0 := rfl
  have hf0 : t.f 0 = 0 := by unfold Mly.f; show t.eqc.getD 0 0 = 0; omega
  have hd0 : dd t.f [0] = [0] := by show addS [] (t.f 0) = _; rw [hf0]; rfl
  have hrf : t.rf (t.nx.length + 1) 0 [0] = t.reach := by rw [reach_ok (validE_of ht), hs]
  have := q_rf ht hr (t.nx.length + 1) 0 [0] (by omega) hrf rfl (by simpa using hn1) (by simp) (fun j hj => by omega) (t.reps.length + 1) (by simp only [cN]; omega)
  rw [hd0] at this
  rw [reach_ok (validE_of (q_ok ht)), q_len]
  show t.qm.rf (t.reps.length + 1) 0 [0] = _
  rw [show (cN t.eqc 0).toNat = 0 from rfl] at this
  rw [this, hr, dd_can ht _ (Nat.le_refl _)]
  congr 1
  unfold Mly.reps; omega
/-- The minimal machine. -/
def Mly.minm (m : Mly) : Mly := m.T.qm
theorem min_can {m : Mly} (hm : MOK m) : CAN m.minm := q_can (T_ok hm) rfl (by rw [T_reach hm, T_len]; rfl)
theorem min_go {m : Mly} (hm : MOK m) (w : List Int) (hw : ∀ i : Nat, i < w.length → 0 ≤ w.getD i 0 ∧ w.getD i 0 < m.inp) : (m.minm.go 0 w).2 = (m.go m.st w).2 := by
  have ht := T_ok hm
  have hn := ht.n1
  have hlen := (eqc_stab ht).len
  have h0 := eqc_can ht 0 (by omega)
  simp only [cBad, Bool.or_eq_false_iff, decide_eq_false_iff_not] at h0
  have hz0 : cN m.T.eqc 0 = 0 := rfl
  have hf0 : m.T.f 0 = 0 := by unfold Mly.f; show m.T.eqc.getD 0 0 = 0; omega
  have h1 := q_go ht w 0 (by omega) (by omega) hw
  rw [hf0] at h1
  obtain ⟨k, hk⟩ := reach_st hm
  have h2 := (T_go hm (s := m.st) (by rw [hk]; simp) w hw).2.2
  rw [ix_st hm] at h2
  exact h1.trans h2
theorem min_eq {a b : Mly} (ha : MOK a) (hb : MOK b) (hi : a.inp = b.inp) : EQ2 a b a.st b.st ↔ EQ2 a.minm b.minm 0 0 := by
  constructor
  · intro h w hw
    rw [min_go ha w hw, min_go hb w (by rw [← hi]; exact hw)]; exact h w hw
  · intro h w hw
    rw [← min_go ha w hw, ← min_go hb w (by rw [← hi]; exact hw)]; exact h w hw
theorem min_same {a b : Mly} (ha : MOK a) (hb : MOK b) (hi : a.inp = b.inp) : EQ2 a b a.st b.st ↔ a.minm = b.minm := by
  rw [min_eq ha hb hi]
  constructor
  · intro h
    obtain ⟨e1, e2⟩ := can_eq (min_can ha) (min_can hb) hi h
    show (⟨a.inp, 0, a.minm.nx, a.minm.ot⟩ : Mly) = ⟨b.inp, 0, b.minm.nx, b.minm.ot⟩
    rw [hi, e1, e2]
  · intro h w _
    rw [h]
end Go.AV
namespace Go.AV
open Nat (reduceEqDiff reduceAdd reduceLeDiff reduceLT reduceMul reduceSub)
open List (set_cons_zero set_cons_succ)
/-plain-/
/-! The minimal machine (min_same) as the loop lays it. -/
def Mly.qN (t : Mly) (k : Nat) : List (List Int) := (repL t.eqc k).map fun s => (t.nx.getD s []).map t.f
def Mly.qO (t : Mly) (k : Nat) : List (List Int) := (repL t.eqc k).map fun s => t.ot.getD s []
theorem qN_len (t : Mly) (k : Nat) : (t.qN k).length = (repL t.eqc k).length := by simp [Mly.qN]
theorem qO_len (t : Mly) (k : Nat) : (t.qO k).length = (repL t.eqc k).length := by simp [Mly.qO]
theorem qN_new {t : Mly} {k : Nat} (h : t.eqc.getD k 0 = cN t.eqc k) : t.qN (k + 1) = t.qN k ++ [(t.nx.getD k []).map t.f] ∧ t.qO (k + 1) = t.qO k ++ [t.ot.getD k []] := by
  unfold Mly.qN Mly.qO; rw [repL_new h, List.map_append, List.map_append]; exact ⟨rfl, rfl⟩
theorem qN_old {t : Mly} {k : Nat} (h : ¬ t.eqc.getD k 0 = cN t.eqc k) : t.qN (k + 1) = t.qN k ∧ t.qO (k + 1) = t.qO k := by
  unfold Mly.qN Mly.qO; rw [repL_old h]; exact ⟨rfl, rfl⟩
def Mly.mres (m : Mly) : Mly := if validE m = 0 then m.minm else ⟨0, 0, [], []⟩
theorem mres_bad {m : Mly} (h : ¬ validE m = 0) : m.mres = ⟨0, 0, [], []⟩ := if_neg h
theorem mres_ok {m : Mly} (h : validE m = 0) : m.mres = m.trim.qm := by unfold Mly.mres; rw [if_pos h, trim_T h]; rfl
/-- The error of two machines. -/
def chqE (a b : Mly) : Int := if validE a = 0 then if validE b = 0 then if a.inp = b.inp then 0 else 15 else validE b else validE a
theorem chqE_ok {a b : Mly} (h : chqE a b = 0) : MOK a ∧ MOK b ∧ a.inp = b.inp := by
  unfold chqE at h
  split at h
  · rename_i h1
    split at h
    · rename_i h2
      split at h
      · rename_i h3; exact ⟨mok_of h1, mok_of h2, h3⟩
      · omega
    · contradiction
  · contradiction
def chm (a b : Mly) (k : Nat) : Mly := if k = 0 then a else b
theorem chm_cells (a b : Mly) {k : Nat} (h : k < 2) : ((([AC.int .i64 a.inp, .int .i64 a.st, .list (.list (.int .i64)) a.nx, .list (.list (.int .i64)) a.ot, .int .i64 b.inp, .int .i64 b.st, .list (.list (.int .i64)) b.nx, .list (.list (.int .i64)) b.ot] : List AC).drop (k * 4)).take 4) =
    [.int .i64 (chm a b k).inp, .int .i64 (chm a b k).st, .list (.list (.int .i64)) (chm a b k).nx, .list (.list (.int .i64)) (chm a b k).ot] := by
  rcases (show k = 0 ∨ k = 1 by omega) with rfl | rfl <;> rfl
def dqW (a b : Mly) : Option (List Int) := if chqE a b = 0 then seS a b a.st b.st else none
theorem dqW_bad {a b : Mly} (h : ¬ chqE a b = 0) : dqW a b = none := if_neg h
theorem dqW_ok {a b : Mly} (h : chqE a b = 0) : dqW a b = seS a b a.st b.st := if_pos h
def eqQ (a b : Mly) : Bool := decide (chqE a b = 0) && !(dqW a b).isSome
theorem repL_le (c : List Int) (k : Nat) : (repL c k).length ≤ k := by
  unfold repL; exact Nat.le_trans (List.length_filter_le _ _) (by simp)
end Go.AV
namespace Go.AV
open Nat (reduceEqDiff reduceAdd reduceLeDiff reduceLT reduceMul reduceSub)
open List (set_cons_zero set_cons_succ)
/-plain-/
theorem pure_args {P : Go.Program} {f : Go.FuncId} {args args' : List AV} {r : AV} (h : PURE P f args r) (ha : All2 VLE args' args) : PURE P f args' r :=
  ⟨h.1, fun C L σ w vs hP hi hv => h.2 C L σ w vs hP hi (ha.map2 (fun a b c hab hac => hab C L σ w c hac) hv)⟩
theorem two_ok {a b : Mly} (ha : validE a = 0) (hb : validE b = 0) : twoE a b = 0 := by unfold twoE; rw [if_pos ha]; exact hb
theorem bE_cases (F : SYS) (n : Nat) (p0 : PP) : (bE F n p0 = 0 ∧ ∃ s, bR F n p0 = some s) ∨ bE F n p0 = 11 := by
  cases h : bR F n p0 with
  | none => exact .inr (bE_none h)
  | some s => exact .inl ⟨bE_some h, s, rfl⟩
theorem pr_cases {a b : Mly} (h20 : twoE a b = 0) : (prE a b = 15 ∧ ¬ a.inp = b.inp) ∨ (prE a b = 11 ∧ a.inp = b.inp) ∨ prE a b = 0 := by
  by_cases hi : a.inp = b.inp
  · rw [(pr_good h20 hi).1]
    rcases bE_cases (FP a b) a.inp.toNat (a.st, b.st) with h | h
    · exact .inr (.inr h.1)
    · exact .inr (.inl ⟨h, hi⟩)
  · exact .inl ⟨(pr_conf h20 hi).1, hi⟩
theorem pr_zero {a b : Mly} (h20 : twoE a b = 0) (hz : prE a b = 0) : a.inp = b.inp ∧ ∃ s, bR (FP a b) a.inp.toNat (a.st, b.st) = some s ∧ prM a b = bM (FP a b) a.inp.toNat (a.st, b.st) := by
  by_cases hi : a.inp = b.inp
  · have := (pr_good h20 hi).1
    rcases bE_cases (FP a b) a.inp.toNat (a.st, b.st) with h | h
    · obtain ⟨s, hs⟩ := h.2
      exact ⟨hi, s, hs, (pr_good h20 hi).2⟩
    · omega
  · have := (pr_conf h20 hi).1; omega
theorem pl_zero {a b : Mly} (h20 : twoE a b = 0) (hz : plE a b = 0) : a.inp + b.inp ≤ 64 ∧ ∃ s, bR (FL a b) (a.inp + b.inp).toNat (a.st, b.st) = some s ∧ plM a b = bM (FL a b) (a.inp + b.inp).toNat (a.st, b.st) := by
  by_cases hi : 64 < a.inp + b.inp
  · have := (pl_big h20 hi).1; omega
  · have := (pl_good h20 hi).1
    rcases bE_cases (FL a b) (a.inp + b.inp).toNat (a.st, b.st) with h | h
    · obtain ⟨s, hs⟩ := h.2
      exact ⟨by omega, s, hs, (pl_good h20 hi).2⟩
    · omega
theorem pl_11 {a b : Mly} (h20 : twoE a b = 0) (hi : a.inp + b.inp ≤ 64) (hz : ¬ plE a b = 0) : plE a b = 11 := by
  have := (pl_good h20 (by omega)).1
  rcases bE_cases (FL a b) (a.inp + b.inp).toNat (a.st, b.st) with h | h
  · omega
  · omega
theorem ca_cases {a b : Mly} (h20 : twoE a b = 0) : (caE a b = 2 ∧ b.inp ≤ gr a) ∨ (caE a b = 11 ∧ ¬ b.inp ≤ gr a) ∨ caE a b = 0 := by
  by_cases hi : b.inp ≤ gr a
  · exact .inl ⟨(ca_big h20 hi).1, hi⟩
  · rw [(ca_good h20 hi).1]
    rcases bE_cases (FC a b) a.inp.toNat (a.st, b.st) with h | h
    · exact .inr (.inr h.1)
    · exact .inr (.inl ⟨h, hi⟩)
theorem ca_zero {a b : Mly} (h20 : twoE a b = 0) (hz : caE a b = 0) : gr a < b.inp ∧ ∃ s, bR (FC a b) a.inp.toNat (a.st, b.st) = some s ∧ caM a b = bM (FC a b) a.inp.toNat (a.st, b.st) := by
  by_cases hi : b.inp ≤ gr a
  · have := (ca_big h20 hi).1; omega
  · have := (ca_good h20 hi).1
    rcases bE_cases (FC a b) a.inp.toNat (a.st, b.st) with h | h
    · obtain ⟨s, hs⟩ := h.2
      exact ⟨by omega, s, hs, (ca_good h20 hi).2⟩
    · omega
theorem ma_cases {m : Mly} {os : List Int} (hv : validE m = 0) (h : ¬ maE m os = 0) : maE m os = 2 := by
  unfold maE at h ⊢
  rw [if_pos hv] at h ⊢
  split
  · rfl
  · rename_i h2; rw [if_neg h2] at h; exact absurd rfl h
theorem reM_ok {m : Mly} {is : List Int} (h : reE m is = 0) : reM m is = (rM m is).T := if_pos h
theorem maM_ok {m : Mly} {os : List Int} (h : maE m os = 0) : maM m os = (oM m os).T := if_pos h
theorem g8_no {m : Mly} (h : g8 m = false) : m.inp ≤ 6 := by
  unfold g8 at h
  simp only [Bool.or_eq_false_iff, decide_eq_false_iff_not] at h
  omega
theorem fromV_rng {m : Mly} (hm : MOK m) (w : List Int) {i : Nat} (h : i < (fromV m m.st w).length) : 0 ≤ (fromV m m.st w).getD i 0 ∧ (fromV m m.st w).getD i 0 ≤ gr m := by
  by_cases hw : wordE w m.inp = 0
  · rw [fromV_ok hm hw] at h ⊢
    exact (go_rng hm w m.st ⟨hm.s1, hm.s2⟩ (wok_of hw).sym).2 _ (getD_mem h)
  · rw [fromV_no hm hw] at h; cases h
theorem fromV_le (m : Mly) (w : List Int) : (fromV m m.st w).length ≤ 1024 := by
  unfold fromV
  split
  · rename_i h
    rw [go_len]
    exact (fromE_zero h).2.len
  · simp
theorem mul_bd {x g : Int} (hx : 0 ≤ x ∧ x ≤ 1048576) (hg : 0 ≤ g ∧ g ≤ 1048576) : 0 ≤ x * (1 + g) ∧ x * (1 + g) ≤ 1099512676352 := by
  have h6 : 0 ≤ x * (1 + g) := Int.mul_nonneg hx.1 (by omega)
  have h7 : x * (1 + g) ≤ 1048576 * 1048577 := Int.mul_le_mul (by omega) (by omega) (by omega) (by omega)
  omega
theorem plA_len (n k : Int) (e : List (Int × Int)) : (plA n e).length ≤ e.length ∧ (plB n k e).length ≤ e.length := by
  unfold plA plB; rw [List.length_map, List.length_map]; exact ⟨List.length_filter_le _ _, List.length_filter_le _ _⟩
theorem pick_len (is w : List Int) : (pick is w).length ≤ w.length := by
  unfold pick; rw [List.length_map]; exact List.length_filter_le _ _
/-! Minimal machines. -/
theorem T_step {m : Mly} (hm : MOK m) {s c : Int} (hs : s ∈ m.reach) (hc : 0 ≤ c ∧ c < m.inp) : m.T.out (m.ix s) c = m.out s c ∧ m.T.nxt (m.ix s) c = m.ix (m.nxt s c) := by
  have hi := ix_rng hm hs
  have ha := at_ix hm hs
  have hR := (rset_reach hm).rng s hs
  have hrl := hm.rl s.toNat (by omega)
  unfold Mly.out Mly.nxt
  constructor
  · rw [T_out (by omega), ha]
  · rw [T_row (by omega), ha]
    show ((m.nx.getD s.toNat []).map m.ix).getD c.toNat 0 = _
    rw [getD_map m.ix 0 0 (by omega)]
def mpS (a : Mly) (s : Int) : Int := a.T.f (a.ix s)
theorem mp_step {a : Mly} (ha : MOK a) {s c : Int} (hs : s ∈ a.reach) (hc : 0 ≤ c ∧ c < a.inp) : a.minm.out (mpS a s) c = a.out s c ∧ a.minm.nxt (mpS a s) c = mpS a (a.nxt s c) := by
  have hi := ix_rng ha hs
  have hT := T_ok ha
  have hl := T_len a
  obtain ⟨q1, q2⟩ := q_step hT (s := a.ix s) (a := c) hi.1 (by omega) hc
  obtain ⟨t1, t2⟩ := T_step ha hs hc
  exact ⟨q1.trans t1, q2.trans (by rw [t2]; rfl)⟩
theorem mp_st {a : Mly} (ha : MOK a) : mpS a a.st = a.minm.st := by
  have ht := T_ok ha
  have hn := ht.n1
  have hlen := (eqc_stab ht).len
  have h0 := eqc_can ht 0 (by omega)
  simp only [cBad, Bool.or_eq_false_iff, decide_eq_false_iff_not] at h0
  have hz0 : cN a.T.eqc 0 = 0 := rfl
  unfold mpS
  rw [ix_st ha]
  show a.T.eqc.getD 0 0 = 0
  omega
theorem st_reach {a : Mly} (ha : MOK a) : a.st ∈ a.reach := by obtain ⟨k, hk⟩ := reach_st ha; rw [hk]; simp
theorem nxt_reach {a : Mly} (ha : MOK a) {s c : Int} (hs : s ∈ a.reach) (hc : 0 ≤ c ∧ c < a.inp) : a.nxt s c ∈ a.reach := by
  have hR := (rset_reach ha).rng s hs
  have hrl := ha.rl s.toNat (by omega)
  exact reach_closed ha hs (getD_mem (w := a.row s) (i := c.toNat) (by show c.toNat < (a.nx.getD s.toNat []).length; omega))
theorem b_sim {F G : SYS} {n : Nat} {p0 : PP} {s : BST} (h : bR F n p0 = some s) (φ : PP → PP) (hφ : ∀ q, q ∈ s.1 → ∀ x, x < n → G (φ q) x = (φ (F q x).1, (F q x).2)) :
    (∃ t, bR G n (φ p0) = some t) ∧ ∀ w : List Int, (∀ i : Nat, i < w.length → 0 ≤ w.getD i 0 ∧ w.getD i 0 < n) → (gF G (φ p0) w).2 = (gF F p0 w).2 := by
  have hk := bR_ok h
  have hcl : ∀ q, q ∈ s.1 → ∀ x, x < n → (F q x).1 ∈ s.1 ∧ (F q x).2 ≤ 1048576 := fun q hq x hx => by
    have h1 := hk.cl _ x (pos_lt hq) hx
    have h2 := hk.bd _ x (pos_lt hq) hx
    rw [at_pos hq] at h1 h2
    exact ⟨h1, h2⟩
  constructor
  · obtain ⟨t, ht, _⟩ := bR_fin (F := G) (n := n) (p0 := φ p0) (s.1.map φ) (by rw [List.length_map]; exact hk.le) (List.mem_map.2 ⟨p0, (pos_p0 h).1, rfl⟩) (fun q hq x hx => by
      obtain ⟨q', hq', e⟩ := List.mem_map.1 hq
      rw [← e, hφ q' hq' x hx]
      exact ⟨List.mem_map.2 ⟨_, (hcl q' hq' x hx).1, rfl⟩, (hcl q' hq' x hx).2⟩)
    exact ⟨t, ht⟩
  · have key : ∀ (w : List Int) (q : PP), q ∈ s.1 → (∀ i : Nat, i < w.length → 0 ≤ w.getD i 0 ∧ w.getD i 0 < n) → (gF G (φ q) w).2 = (gF F q w).2 := by
      intro w
      induction w with
      | nil => intro q _ _; rfl
      | cons c w ih =>
        intro q hq hw
        obtain ⟨h1, h2⟩ := syms_tail hw
        have e := hφ q hq c.toNat (by omega)
        rw [gF_cons, gF_cons, e]
        simp only []
        rw [ih _ (hcl q hq c.toNat (by omega)).1 h2]
    exact fun w hw => key w p0 (pos_p0 h).1 hw
structure EQM (x y : Mly) : Prop where
  chq : chqE x y = 0
  eq : eqQ x y = true
theorem eqm_of {x y : Mly} (hx : MOK x) (hy : MOK y) (hi : x.inp = y.inp) (h : EQ2 x y x.st y.st) : EQM x y := by
  have e : chqE x y = 0 := by unfold chqE; rw [if_pos (validE_of hx), if_pos (validE_of hy), if_pos hi]
  refine ⟨e, ?_⟩
  unfold eqQ
  rw [dqW_ok e, e, (seS_iff hx hy hi ⟨hx.s1, hx.s2⟩ ⟨hy.s1, hy.s2⟩).2 h]
  rfl
theorem min_ok {a : Mly} (ha : MOK a) : MOK a.minm := (min_can ha).ok
theorem pr_equiv {a b : Mly} (ha : MOK a) (hb : MOK b) (ga : gr a.minm = gr a) (gb : gr b.minm = gr b) (hz : prE a b = 0) : prE a.minm b.minm = 0 ∧ EQM (prM a b) (prM a.minm b.minm) := by
  have hx := min_ok ha; have hy := min_ok hb
  have h20 := two_ok (validE_of ha) (validE_of hb)
  have h21 := two_ok (validE_of hx) (validE_of hy)
  obtain ⟨hi, s, hs, hM⟩ := pr_zero h20 hz
  have hi2 : a.minm.inp = b.minm.inp := hi
  have hI := bR_all (I := fun q => q.1 ∈ a.reach ∧ q.2 ∈ b.reach) (fun q hq x hx => ⟨nxt_reach ha hq.1 ⟨by omega, by omega⟩, nxt_reach hb hq.2 ⟨by omega, by omega⟩⟩) ⟨st_reach ha, st_reach hb⟩ hs
  obtain ⟨⟨t, ht⟩, hg⟩ := b_sim (G := FP a.minm b.minm) hs (fun q => (mpS a q.1, mpS b q.2)) (fun q hq x hx => by
    have hq2 := hI q hq
    obtain ⟨o1, n1⟩ := mp_step ha hq2.1 (c := (x : Int)) ⟨by omega, by omega⟩
    obtain ⟨o2, n2⟩ := mp_step hb hq2.2 (c := (x : Int)) ⟨by omega, by omega⟩
    simp only [FP]
    rw [o1, n1, o2, n2, gb])
  simp only [mp_st ha, mp_st hb] at ht hg
  have hn : a.minm.inp = a.inp := rfl
  have hM2 := (pr_good h21 hi2).2
  have hE2 := (pr_good h21 hi2).1
  rw [hn] at hM2 hE2
  have hok1 := pr_ok ha hb hi hs
  have hok2 : MOK (bM (FP a.minm b.minm) a.inp.toNat (a.minm.st, b.minm.st)) := pr_ok hx hy hi2 ht
  refine ⟨by rw [hE2, bE_some ht], ?_⟩
  rw [hM, hM2]
  have hst1 := bM_st hs; have hst2 := bM_st ht
  refine eqm_of hok1 hok2 (by rw [hst1.2.1, hst2.2.1]) fun w hw => ?_
  have hw2 : ∀ i : Nat, i < w.length → 0 ≤ w.getD i 0 ∧ w.getD i 0 < ((a.inp.toNat : Nat) : Int) := fun i hi => by have := hw i hi; rw [hst1.2.1] at this; exact this
  rw [b_run hs hw2, b_run ht hw2, hg w hw2]
theorem pl_equiv {a b : Mly} (ha : MOK a) (hb : MOK b) (ga : gr a.minm = gr a) (gb : gr b.minm = gr b) (hz : plE a b = 0) : plE a.minm b.minm = 0 ∧ EQM (plM a b) (plM a.minm b.minm) := by
  have hx := min_ok ha; have hy := min_ok hb
  have h20 := two_ok (validE_of ha) (validE_of hb)
  have h21 := two_ok (validE_of hx) (validE_of hy)
  obtain ⟨hi, s, hs, hM⟩ := pl_zero h20 hz
  have hi2 : a.minm.inp + b.minm.inp ≤ 64 := hi
  have hI := bR_all (I := fun q => q.1 ∈ a.reach ∧ q.2 ∈ b.reach) (fun q hq x hx => by
    unfold FL
    split
    · exact ⟨nxt_reach ha hq.1 ⟨by omega, by omega⟩, hq.2⟩
    · exact ⟨hq.1, nxt_reach hb hq.2 ⟨by omega, by omega⟩⟩) ⟨st_reach ha, st_reach hb⟩ hs
  have hna : a.minm.inp = a.inp := rfl
  have hnb : b.minm.inp = b.inp := rfl
  obtain ⟨⟨t, ht⟩, hg⟩ := b_sim (G := FL a.minm b.minm) hs (fun q => (mpS a q.1, mpS b q.2)) (fun q hq x hx => by
    have hq2 := hI q hq
    unfold FL
    rw [hna]
    split
    · obtain ⟨o1, n1⟩ := mp_step ha hq2.1 (c := (x : Int)) ⟨by omega, by omega⟩
      simp only []
      rw [o1, n1]
    · obtain ⟨o2, n2⟩ := mp_step hb hq2.2 (c := (x : Int) - a.inp) ⟨by omega, by omega⟩
      simp only []
      rw [o2, n2, ga])
  simp only [mp_st ha, mp_st hb] at ht hg
  have hM2 := (pl_good h21 (by omega)).2
  have hE2 := (pl_good h21 (by omega)).1
  rw [hna, hnb] at hM2 hE2
  have hok1 := pl_ok ha hb hi hs
  have hok2 : MOK (bM (FL a.minm b.minm) (a.inp + b.inp).toNat (a.minm.st, b.minm.st)) := pl_ok hx hy hi2 ht
  refine ⟨by rw [hE2, bE_some ht], ?_⟩
  rw [hM, hM2]
  have hst1 := bM_st hs; have hst2 := bM_st ht
  refine eqm_of hok1 hok2 (by rw [hst1.2.1, hst2.2.1]) fun w hw => ?_
  have hw2 : ∀ i : Nat, i < w.length → 0 ≤ w.getD i 0 ∧ w.getD i 0 < (((a.inp + b.inp).toNat : Nat) : Int) := fun i hi => by have := hw i hi; rw [hst1.2.1] at this; exact this
  rw [b_run hs hw2, b_run ht hw2, hg w hw2]
end Go.AV
namespace Go.AV
open Nat (reduceEqDiff reduceAdd reduceLeDiff reduceLT reduceMul reduceSub)
open List (set_cons_zero set_cons_succ)
/-plain-/
theorem pats_free {caps : List Cap} (h : caps.all isPat = true) (f : Go.FuncId) (n : Nat) : freeC n (.fn f caps) = true := by
  simp only [freeC]
  rw [List.all_eq_true] at h ⊢
  intro x hx
  have := h x hx
  cases x with
  | ref k => cases this
  | pat t d => rfl
  | pfn f ds => rfl
end Go.AV
namespace Go.Proofs.Ytfbnhgefkdhiaaa
open Go Go.AV
open Nat (reduceEqDiff reduceAdd reduceLeDiff reduceLT reduceMul reduceSub)
open List (set_cons_zero set_cons_succ)
set_option maxRecDepth 100000 in
set_option maxHeartbeats 1500000 in
theorem bbuild_c (n f : Nat) (caps : List Cap) (F : SYS) (p0 : PP) (I : PP → Prop) (N : Int) (hN : N = (n : Int)) (hcap : caps.all isPat = true) (hn : n ≤ 1000) (h0 : I p0) (hKI : ∀ q, I q → ∀ x, x < n → I (F q x).1) (hF : ∀ q x, I q → x < n → PURE Try.prog f (.agg [.int .i64 q.1, .int .i64 q.2] :: .one (.int .i64 (x : Int)) :: caps.map capAV) (.agg [.int .i64 (F q x).1.1, .int .i64 (F q x).1.2, .int .i64 (F q x).2])) : PURE Try.prog 32 [.one (.int .i64 N), .agg [.int .i64 p0.1, .int .i64 p0.2], .one (.fn f caps)] (.tup [(bM F n p0).av, .one (.int .i64 (bE F n p0))]) := by
  subst hN
  refine pure_of_le Try.func32 rfl (by kernel_rfl) (Nat.le_of_ble_eq_true rfl) (by simp only [List.all_cons, List.all_nil, pureV, pure1, pureC, hcap, Bool.and_true]) fun C hP hN hB => ?_
  replace hN : C.N = 93 := hN
  simp only [argEnv, reduceAdd]
  refine awp_seq_k fun K1 hK1 => ?_
  refine awp_reg hP hN rfl ?_
  iterate 3 (refine rg_step rfl fun K0 hK0 => ?_; simp only [zE, op1, ev, lkp, avOf, acOf, opBox, cellsAV, opAlloc, reduceCtorEq, reduceEqDiff, reduceAdd, reduceLeDiff, reduceLT, reduceMul, reduceSub, Try.fl51, Try.st24, Try.st51, Try.td24, Try.td27, Try.td51, Mly.av, List.length_append, List.length_map, List.length_cons, List.length_nil, bN_len, bO_len]; (repeat refine And.intro (by first | omega | assumption | exact rfl) ?_); (first | refine hK0 _ ?_ | refine Or.inl (hK0 _ ?_)); clear hK0 K0; simp only [put, app, setAll, trOf, zE, zS, reduceAdd])
  refine rg_nil ?_
  refine hK1 _ ?_; clear hK1; refine awp_keep [0, 1, 2, 4, 6, 7] ?_; simp only [keepEnv, lkp, zE, reduceCtorEq, reduceEqDiff, argEnv, reduceAdd]
  refine awp_seq_k fun K2 hK2 => ?_
  refine awp_reg hP hN rfl ?_
  iterate 4 (refine rg_step rfl fun K0 hK0 => ?_; simp only [zE, op1, ev, lkp, avOf, acOf, opBuild, fillAC, writeAC, cellsAV, opAlloc, opStore, Nat.mul_one, datOf, acs, Ty.size, Ty.dflt, zG, reduceCtorEq, reduceEqDiff, reduceAdd, reduceLeDiff, reduceLT, reduceMul, reduceSub, Try.st24, Try.td24, Try.td3, Mly.av, List.length_append, List.length_map, List.length_cons, List.length_nil, bN_len, bO_len]; (repeat refine And.intro (by first | omega | assumption | exact rfl) ?_); (first | refine hK0 _ ?_ | refine Or.inl (hK0 _ ?_)); clear hK0 K0; simp only [put, app, setAll, trOf, zE, zS, reduceAdd])
  refine rg_nil ?_
  refine hK2 _ ?_; clear hK2; refine awp_keep [0, 1, 2, 4, 6, 7, 8] ?_; simp only [keepEnv, lkp, zE, reduceCtorEq, reduceEqDiff, argEnv, reduceAdd]
  refine awp_seq_k fun K3 hK3 => ?_
  refine awp_reg hP hN rfl ?_
  (refine rg_step rfl fun K0 hK0 => ?_; simp only [zE, op1, ev, lkp, avOf, acOf, opLoad, Nat.mul_one, readAC, isAggK, acs, Ty.dflt, zG, cellsAt, reduceCtorEq, reduceEqDiff, reduceAdd, reduceLeDiff, reduceLT, reduceMul, reduceSub, Try.fl51, Try.st51, Try.td51, Mly.av, List.length_append, List.length_map, List.length_cons, List.length_nil, bN_len, bO_len]; (repeat refine And.intro (by first | omega | assumption | exact rfl) ?_); (first | refine hK0 _ ?_ | refine Or.inl (hK0 _ ?_)); clear hK0 K0; simp only [put, app, setAll, trOf, zE, zS, reduceAdd])
  (refine rg_step rfl fun K0 hK0 => ?_; simp only [zE, op1, ev, lkp, avOf, acOf, opBuildSlice, fillAC, chunk, rep, datOf, writeAC, cellsAV, Ty.size, reduceCtorEq, reduceEqDiff, reduceAdd, reduceLeDiff, reduceLT, reduceMul, reduceSub, Try.el69, Try.td1, Try.td69, Mly.av, List.length_append, List.length_map, List.length_cons, List.length_nil, bN_len, bO_len]; (repeat refine And.intro (by first | omega | assumption | exact rfl) ?_); refine Or.inr (Or.inl (hK0 _ ?_)); clear hK0 K0; simp only [put, app, setAll, trOf, zE, zS, reduceAdd])
  (refine rg_step rfl fun K0 hK0 => ?_; simp only [zE, op1, ev, lkp, avOf, acOf, ev, reduceCtorEq, reduceEqDiff, reduceAdd, reduceLeDiff, reduceLT, reduceMul, reduceSub, Try.el69, Try.td69, Mly.av, List.length_append, List.length_map, List.length_cons, List.length_nil, bN_len, bO_len]; (repeat refine And.intro (by first | omega | assumption | exact rfl) ?_); (first | refine hK0 _ ?_ | refine Or.inl (hK0 _ ?_)); clear hK0 K0; simp only [put, app, setAll, trOf, zE, zS, reduceAdd])
  refine rg_nil ?_
  refine hK3 _ ?_; clear hK3; refine awp_keep [0, 1, 2, 4, 6, 7, 8, 9] ?_; simp only [keepEnv, lkp, zE, reduceCtorEq, reduceEqDiff, argEnv, reduceAdd]
  refine awp_seq_k fun K4 hK4 => ?_
  refine awp_seq_k fun K5 hK5 => ?_
  refine awp_reg hP hN rfl ?_
  (refine rg_step rfl fun K0 hK0 => ?_; simp only [zE, op1, ev, lkp, avOf, acOf, ev, reduceCtorEq, reduceEqDiff, reduceAdd, reduceLeDiff, reduceLT, reduceMul, reduceSub, Try.td3, Mly.av, List.length_append, List.length_map, List.length_cons, List.length_nil, bN_len, bO_len]; (repeat refine And.intro (by first | omega | assumption | exact rfl) ?_); (first | refine hK0 _ ?_ | refine Or.inl (hK0 _ ?_)); clear hK0 K0; simp only [put, app, setAll, trOf, zE, zS, reduceAdd])
  refine rg_nil ?_
  refine hK5 _ ?_; clear hK5; refine awp_keep [0, 1, 2, 4, 6, 7, 8, 9, 10] ?_; simp only [keepEnv, lkp, zE, reduceCtorEq, reduceEqDiff, argEnv, reduceAdd]
  refine awp_block ?_
  refine awp_own_cell 2 2 (.list (.int .i64)) 33 (by decide) rfl rfl ?_; simp only [zS, List.length_cons, List.length_nil, List.cons_append, List.nil_append, Nat.zero_add, reduceAdd]
  refine awp_own_cell 2 3 (.list (.int .i64)) 33 (by decide) rfl rfl ?_; simp only [zS, List.length_cons, List.length_nil, List.cons_append, List.nil_append, Nat.zero_add, reduceAdd]
  refine awp_loop (fun n6 s6 => ∃ (i : Nat) (s : BST) (v : Nat) (u : Nat), (s.1.length ≤ 128) ∧ (i ≤ s.1.length) ∧ (bF F n (130 - i) i s = bR F n p0) ∧ (∀ q, q ∈ s.1 → I q) ∧ (s.2.1.length = i) ∧ (s.2.2.length = i) ∧ n6 = 130 - i ∧ s6 = { env := [(0, .one (.int .i64 (n : Int))), (2, .one (.fn f caps)), (6, .one (.ptr 1 0 0 0)), (8, .one (.ptr 2 0 0 0)), (9, .one (.row 3 v)), (10, .one (.int .i64 (i : Int)))], L := [.vars 51 [.int .i64 p0.1, .int .i64 p0.2], .vars 24 [.int .i64 0, .int .i64 0, .nils, .nils], .vars 24 [.int .i64 (n : Int), .int .i64 0, .row 4 u, .row 5 u], .row (.pair (.int .i64) (.pair (.int .i64) .unit)) 51 v (List.map encB s.1), .row (.list (.int .i64)) 33 u s.2.1, .row (.list (.int .i64)) 33 u s.2.2] }) ?_ ?_
  · refine ⟨_, _, sub_keep [0, 2, 6, 8, 9, 10], 0, ([p0], [], []), 0, 0, by simp, Nat.zero_le _, rfl, fun q hq => by simp at hq; subst hq; exact h0, rfl, rfl, rfl, rfl⟩
  · rintro n6 s6 ⟨i, s, v, u, hsl, hil0, hbf, hI, hnl, hol, rfl, rfl⟩
    refine awp_seq_k fun K7 hK7 => ?_
    refine awp_seq_k fun K8 hK8 => ?_
    refine awp_reg hP hN rfl ?_
    iterate 4 (refine rg_step rfl fun K0 hK0 => ?_; simp only [zE, op1, ev, lkp, avOf, acOf, opCallAny, opMM, opLen, lenAC, lenOk, fpAC, Nat.div_one, opAppend, srcOf, Ty.size, datOf, dite_true, opBin, arith, inK_i64, eqACs, eqAC, reduceCtorEq, reduceEqDiff, reduceAdd, reduceLeDiff, reduceLT, reduceMul, reduceSub, Try.el69, Try.td3, Try.td4, Try.td69, Mly.av, List.length_append, List.length_map, List.length_cons, List.length_nil, bN_len, bO_len]; (repeat refine And.intro (by first | omega | assumption | exact rfl) ?_); (first | refine hK0 _ ?_ | refine Or.inl (hK0 _ ?_)); clear hK0 K0; simp only [put, app, setAll, trOf, zE, zS, reduceAdd])
    refine rg_nil ?_
    refine hK8 _ ?_; clear hK8; refine awp_keep [0, 2, 6, 8, 9, 10, 23] ?_; simp only [keepEnv, lkp, zE, reduceCtorEq, reduceEqDiff, argEnv, reduceAdd]
    refine awp_cond (by simp only [ev, keepEnv, lkp, zE, reduceCtorEq, reduceEqDiff, argEnv, reduceAdd]; exact rfl) (fun hc9 => ?_) (fun hc9 => ?_)
    · (try simp only [zB, reduceCtorEq] at hc9)
      refine awp_skip ?_
      refine hK7 _ ?_; clear hK7; refine awp_keep [0, 2, 6, 8, 9, 10, 23] ?_; simp only [keepEnv, lkp, zE, reduceCtorEq, reduceEqDiff, argEnv, reduceAdd]
      refine awp_seq_k fun K10 hK10 => ?_
      refine awp_block ?_
      refine awp_seq_k fun K11 hK11 => ?_
      have hil9 : i < s.1.length := by omega
      refine awp_reg hP hN rfl ?_
      iterate 2 (refine rg_step rfl fun K0 hK0 => ?_; simp only [zE, op1, ev, lkp, avOf, acOf, ev, reduceCtorEq, reduceEqDiff, reduceAdd, reduceLeDiff, reduceLT, reduceMul, reduceSub, Try.el33, Try.td33, Mly.av, List.length_append, List.length_map, List.length_cons, List.length_nil, bN_len, bO_len]; (repeat refine And.intro (by first | omega | assumption | exact rfl) ?_); (first | refine hK0 _ ?_ | refine Or.inl (hK0 _ ?_)); clear hK0 K0; simp only [put, app, setAll, trOf, zE, zS, reduceAdd])
      refine rg_nil ?_
      refine hK11 _ ?_; clear hK11; refine awp_keep [0, 2, 6, 8, 9, 10, 11, 12, 23] ?_; simp only [keepEnv, lkp, zE, reduceCtorEq, reduceEqDiff, argEnv, reduceAdd]
      refine awp_seq_k fun K12 hK12 => ?_
      refine awp_seq_k fun K13 hK13 => ?_
      refine awp_reg hP hN rfl ?_
      iterate 2 (refine rg_step rfl fun K0 hK0 => ?_; simp only [zE, op1, ev, lkp, avOf, acOf, ev, reduceCtorEq, reduceEqDiff, reduceAdd, reduceLeDiff, reduceLT, reduceMul, reduceSub, Try.td3, Mly.av, List.length_append, List.length_map, List.length_cons, List.length_nil, bN_len, bO_len]; (repeat refine And.intro (by first | omega | assumption | exact rfl) ?_); (first | refine hK0 _ ?_ | refine Or.inl (hK0 _ ?_)); clear hK0 K0; simp only [put, app, setAll, trOf, zE, zS, reduceAdd])
      refine rg_nil ?_
      refine hK13 _ ?_; clear hK13; refine awp_keep [0, 2, 6, 8, 9, 10, 11, 12, 23, 26, 27] ?_; simp only [keepEnv, lkp, zE, reduceCtorEq, reduceEqDiff, argEnv, reduceAdd]
      refine awp_block ?_
      refine awp_own 11 (.int .i64) 3 (by decide) rfl ?_; simp only [List.length_cons, List.length_nil, List.cons_append, List.nil_append, Nat.zero_add, reduceAdd]
      refine awp_own 12 (.int .i64) 3 (by decide) rfl ?_; simp only [List.length_cons, List.length_nil, List.cons_append, List.nil_append, Nat.zero_add, reduceAdd]
      refine awp_loop (fun n14 s14 => ∃ (x : Nat) (v2 : Nat) (w : Nat), (x ≤ n) ∧ ((bL F (s.1.getD i d0) s.1 x).length ≤ 128) ∧ (∀ y, y < x → bX F (s.1.getD i d0) s.1 y = false) ∧ (∀ q, q ∈ (bL F (s.1.getD i d0) s.1 x) → I q) ∧ n14 = n - x ∧ s14 = { env := [(0, .one (.int .i64 (n : Int))), (2, .one (.fn f caps)), (6, .one (.ptr 1 0 0 0)), (8, .one (.ptr 2 0 0 0)), (9, .one (.row 3 v2)), (10, .one (.int .i64 (i : Int))), (11, .one (.row 6 w)), (12, .one (.row 7 w)), (26, .one (.int .i64 (n : Int))), (27, .one (.int .i64 (x : Int)))], L := [.vars 51 [.int .i64 p0.1, .int .i64 p0.2], .vars 24 [.int .i64 0, .int .i64 0, .nils, .nils], .vars 24 [.int .i64 (n : Int), .int .i64 0, .row 4 u, .row 5 u], .row (.pair (.int .i64) (.pair (.int .i64) .unit)) 51 v2 (List.map encB (bL F (s.1.getD i d0) s.1 x)), .row (.list (.int .i64)) 33 u s.2.1, .row (.list (.int .i64)) 33 u s.2.2, .row (.int .i64) 3 w (bN F (s.1.getD i d0) s.1 x), .row (.int .i64) 3 w (bO F (s.1.getD i d0) x)] }) ?_ ?_
      · refine ⟨_, _, sub_keep [0, 2, 6, 8, 9, 10, 11, 12, 26, 27], 0, v, 0, Nat.zero_le _, hsl, fun y hy => by omega, hI, rfl, rfl⟩
      · rintro n14 s14 ⟨x, v2, w, hx, hxl, hbx, hIx, rfl, rfl⟩
        refine awp_seq_k fun K15 hK15 => ?_
        refine awp_reg hP hN rfl ?_
        (refine rg_step rfl fun K0 hK0 => ?_; simp only [zE, op1, ev, lkp, avOf, acOf, opBin, arith, inK_i64, eqACs, eqAC, reduceCtorEq, reduceEqDiff, reduceAdd, reduceLeDiff, reduceLT, reduceMul, reduceSub, Try.td3, Try.td4, Mly.av, List.length_append, List.length_map, List.length_cons, List.length_nil, bN_len, bO_len]; (repeat refine And.intro (by first | omega | assumption | exact rfl) ?_); (first | refine hK0 _ ?_ | refine Or.inl (hK0 _ ?_)); clear hK0 K0; simp only [put, app, setAll, trOf, zE, zS, reduceAdd])
        refine rg_nil ?_
        refine hK15 _ ?_; clear hK15; refine awp_keep [0, 2, 6, 8, 9, 10, 11, 12, 26, 27, 28] ?_; simp only [keepEnv, lkp, zE, reduceCtorEq, reduceEqDiff, argEnv, reduceAdd]
        refine awp_seq_k fun K16 hK16 => ?_
        refine awp_cond (by simp only [ev, keepEnv, lkp, zE, reduceCtorEq, reduceEqDiff, argEnv, reduceAdd]; exact rfl) (fun hc17 => ?_) (fun hc17 => ?_)
        · (try simp only [zB, reduceCtorEq] at hc17)
          refine awp_skip ?_
          refine hK16 _ ?_; clear hK16; refine awp_keep [0, 2, 6, 8, 9, 10, 11, 12, 26, 27, 28] ?_; simp only [keepEnv, lkp, zE, reduceCtorEq, reduceEqDiff, argEnv, reduceAdd]
          refine awp_seq_k fun K18 hK18 => ?_
          refine awp_block ?_
          refine awp_seq_k fun K19 hK19 => ?_
          refine awp_reg hP hN rfl ?_
          iterate 2 (refine rg_step rfl fun K0 hK0 => ?_; simp only [zE, op1, ev, lkp, avOf, acOf, ev, reduceCtorEq, reduceEqDiff, reduceAdd, reduceLeDiff, reduceLT, reduceMul, reduceSub, Try.td3, Mly.av, List.length_append, List.length_map, List.length_cons, List.length_nil, bN_len, bO_len]; (repeat refine And.intro (by first | omega | assumption | exact rfl) ?_); (first | refine hK0 _ ?_ | refine Or.inl (hK0 _ ?_)); clear hK0 K0; simp only [put, app, setAll, trOf, zE, zS, reduceAdd])
          refine rg_nil ?_
          refine hK19 _ ?_; clear hK19; refine awp_keep [0, 2, 6, 8, 9, 10, 11, 12, 13, 26, 27, 28] ?_; simp only [keepEnv, lkp, zE, reduceCtorEq, reduceEqDiff, argEnv, reduceAdd]
          refine awp_seq_k fun K20 hK20 => ?_
          have hge9 := bL_ge F (s.1.getD i d0) s.1 x; have hgi : ∀ d, (List.map encB (bL F (s.1.getD i d0) s.1 x)).getD i d = ((s.1.getD i d0).1, ((s.1.getD i d0).2, ())) := fun d => by rw [encB_at (by omega), bL_at F _ x hil9]
          refine awp_reg hP hN rfl ?_
          iterate 6 (refine rg_step rfl fun K0 hK0 => ?_; simp only [zE, op1, ev, lkp, avOf, acOf, opIndexAddr, zG, Ty.dflt, Ty.size, Nat.mul_one, ne_eq, not_false_eq_true, Int.natCast_one, Int.mul_one, opLoad, readAC, isAggK, acs, cellsAt, reduceCtorEq, reduceEqDiff, reduceAdd, reduceLeDiff, reduceLT, reduceMul, reduceSub, Try.el69, Try.fl51, Try.st51, Try.td3, Try.td51, Try.td54, Try.td69, Mly.av, List.length_append, List.length_map, List.length_cons, List.length_nil, bN_len, bO_len, hgi]; (repeat refine And.intro (by first | omega | assumption | exact rfl) ?_); (first | refine hK0 _ ?_ | refine Or.inl (hK0 _ ?_)); clear hK0 K0; simp only [put, app, setAll, trOf, zE, zS, reduceAdd])
          refine rg_step rfl fun K0 hK0 => ?_
          refine op_call (h := call_of_pure (hF (s.1.getD i d0) x (hI _ (mem_d0 hil9)) (by omega))) rfl rfl (by first | exact rfl | (simp only [ev, keepEnv, lkp, zE, reduceCtorEq, reduceEqDiff, argEnv, reduceAdd]; exact rfl)) (by simp only [zE, zG, op1, ev, lkp, avOf, acOf, cellsAV, acs, capAV, mv1, mvC, Ty.dflt, reduceCtorEq, reduceEqDiff, reduceAdd, reduceLeDiff, reduceLT, reduceMul, reduceSub, Mly.av, List.length_append, List.length_map, List.length_cons, List.length_nil, bN_len, bO_len, hgi]) ?_
          refine hK0 _ ?_; clear hK0 K0; simp only [put, app, setAll, trOf, zE, zS, reduceAdd]
          iterate 2 (refine rg_step rfl fun K0 hK0 => ?_; simp only [zE, op1, ev, lkp, avOf, acOf, opAlloc, opStore, Nat.mul_one, cellsAV, writeAC, datOf, acs, Ty.size, Ty.dflt, zG, reduceCtorEq, reduceEqDiff, reduceAdd, reduceLeDiff, reduceLT, reduceMul, reduceSub, Try.st53, Try.td53, Mly.av, List.length_append, List.length_map, List.length_cons, List.length_nil, bN_len, bO_len, hgi]; (repeat refine And.intro (by first | omega | assumption | exact rfl) ?_); (first | refine hK0 _ ?_ | refine Or.inl (hK0 _ ?_)); clear hK0 K0; simp only [put, app, setAll, trOf, zE, zS, reduceAdd])
          refine rg_nil ?_
          refine hK20 _ ?_; clear hK20; refine awp_keep [0, 2, 6, 8, 9, 10, 11, 12, 13, 14, 26, 27, 28] ?_; simp only [keepEnv, lkp, zE, reduceCtorEq, reduceEqDiff, argEnv, reduceAdd]
          refine awp_seq_k fun K21 hK21 => ?_
          refine awp_reg hP hN rfl ?_
          (refine rg_step rfl fun K0 hK0 => ?_; simp only [zE, op1, ev, lkp, avOf, acOf, ev, reduceCtorEq, reduceEqDiff, reduceAdd, reduceLeDiff, reduceLT, reduceMul, reduceSub, Try.td3, Mly.av, List.length_append, List.length_map, List.length_cons, List.length_nil, bN_len, bO_len]; (repeat refine And.intro (by first | omega | assumption | exact rfl) ?_); (first | refine hK0 _ ?_ | refine Or.inl (hK0 _ ?_)); clear hK0 K0; simp only [put, app, setAll, trOf, zE, zS, reduceAdd])
          refine rg_nil ?_
          refine hK21 _ ?_; clear hK21; refine awp_keep [0, 2, 6, 8, 9, 10, 11, 12, 13, 14, 15, 26, 27, 28] ?_; simp only [keepEnv, lkp, zE, reduceCtorEq, reduceEqDiff, argEnv, reduceAdd]
          refine awp_seq_k fun K22 hK22 => ?_
          refine awp_block ?_
          refine awp_loop (fun n23 s23 => ∃ (k : Nat), (k ≤ (bL F (s.1.getD i d0) s.1 x).length) ∧ (∀ q, q < k → (bL F (s.1.getD i d0) s.1 x).getD q d0 ≠ (F (s.1.getD i d0) x).1) ∧ n23 = (bL F (s.1.getD i d0) s.1 x).length - k ∧ s23 = { env := [(0, .one (.int .i64 (n : Int))), (2, .one (.fn f caps)), (6, .one (.ptr 1 0 0 0)), (8, .one (.ptr 2 0 0 0)), (9, .one (.row 3 v2)), (10, .one (.int .i64 (i : Int))), (11, .one (.row 6 w)), (12, .one (.row 7 w)), (13, .one (.int .i64 (x : Int))), (14, .one (.ptr 8 0 0 0)), (15, .one (.int .i64 (k : Int))), (26, .one (.int .i64 (n : Int))), (27, .one (.int .i64 (x : Int)))], L := [.vars 51 [.int .i64 p0.1, .int .i64 p0.2], .vars 24 [.int .i64 0, .int .i64 0, .nils, .nils], .vars 24 [.int .i64 (n : Int), .int .i64 0, .row 4 u, .row 5 u], .row (.pair (.int .i64) (.pair (.int .i64) .unit)) 51 v2 (List.map encB (bL F (s.1.getD i d0) s.1 x)), .row (.list (.int .i64)) 33 u s.2.1, .row (.list (.int .i64)) 33 u s.2.2, .row (.int .i64) 3 w (bN F (s.1.getD i d0) s.1 x), .row (.int .i64) 3 w (bO F (s.1.getD i d0) x), .vars 53 [.int .i64 (F (s.1.getD i d0) x).1.1, .int .i64 (F (s.1.getD i d0) x).1.2, .int .i64 (F (s.1.getD i d0) x).2]] }) ?_ ?_
          · refine ⟨_, _, sub_keep [0, 2, 6, 8, 9, 10, 11, 12, 13, 14, 15, 26, 27], 0, Nat.zero_le _, fun q hq => by omega, rfl, rfl⟩
          · rintro n23 s23 ⟨k, hk, hq, rfl, rfl⟩
            refine awp_seq_k fun K24 hK24 => ?_
            refine awp_seq_k fun K25 hK25 => ?_
            obtain ⟨hgk1, hgk2⟩ := encB_df (bL F (s.1.getD i d0) s.1 x) k
            refine awp_drw hP hN Try.mixed rfl ?_
            iterate 4 (refine rg_step rfl fun K0 hK0 => ?_; simp only [zE, op1, ev, lkp, avOf, acOf, opCallAny, opMM, opLen, lenAC, lenOk, fpAC, Nat.div_one, opAppend, srcOf, Ty.size, datOf, dite_true, opBin, arith, inK_i64, eqACs, eqAC, reduceCtorEq, reduceEqDiff, reduceAdd, reduceLeDiff, reduceLT, reduceMul, reduceSub, Try.el69, Try.td3, Try.td4, Try.td69, Mly.av, List.length_append, List.length_map, List.length_cons, List.length_nil, bN_len, bO_len, hgk1, hgk2]; (repeat refine And.intro (by first | omega | assumption | exact rfl) ?_); (first | refine hK0 _ ?_ | refine Or.inl (hK0 _ ?_)); clear hK0 K0; simp only [put, app, setAll, trOf, zE, zS, reduceAdd])
            (refine rg_step rfl fun K0 hK0 => ?_; simp only [zE, op1, ev, lkp, avOf, acOf, ev, reduceCtorEq, reduceEqDiff, reduceAdd, reduceLeDiff, reduceLT, reduceMul, reduceSub, Try.td4, Mly.av, List.length_append, List.length_map, List.length_cons, List.length_nil, bN_len, bO_len, hgk1, hgk2]; (repeat refine And.intro (by first | omega | assumption | exact rfl) ?_); (first | refine hK0 _ ?_ | refine Or.inl (hK0 _ ?_)); clear hK0 K0; simp only [put, app, setAll, trOf, zE, zS, reduceAdd])
            refine' rg_join_n (want := true) 7 rfl (m := 41) (by simp only [keepEnv, lkp, zE, reduceCtorEq, reduceEqDiff, argEnv, reduceAdd]; exact rfl) (by kernel_rfl) rfl rfl rfl rfl rfl (fun hg26 => ?a26) ?b26 ?c26
            case a26 =>
              have hq26 := hg26; (try simp only [zB, reduceCtorEq] at hg26); simp only [List.take_succ_cons, List.take_zero, List.cons_append, List.nil_append]
              (refine rg_do rfl fun K0 hK0 => ?_; simp only [zE, op1, ev, lkp, avOf, acOf, ev, reduceCtorEq, reduceEqDiff, reduceAdd, reduceLeDiff, reduceLT, reduceMul, reduceSub, Try.el69, Try.td69, Mly.av, List.length_append, List.length_map, List.length_cons, List.length_nil, bN_len, bO_len, hgk1, hgk2]; (repeat refine And.intro (by first | omega | assumption | exact rfl) ?_); (first | refine hK0 _ ?_ | refine Or.inl (hK0 _ ?_)); clear hK0 K0; simp only [put, app, setAll, trOf, zE, zS, reduceAdd])
              (refine rg_do rfl fun K0 hK0 => ?_; simp only [zE, op1, ev, lkp, avOf, acOf, ev, reduceCtorEq, reduceEqDiff, reduceAdd, reduceLeDiff, reduceLT, reduceMul, reduceSub, Try.td3, Mly.av, List.length_append, List.length_map, List.length_cons, List.length_nil, bN_len, bO_len, hgk1, hgk2]; (repeat refine And.intro (by first | omega | assumption | exact rfl) ?_); (first | refine hK0 _ ?_ | refine Or.inl (hK0 _ ?_)); clear hK0 K0; simp only [put, app, setAll, trOf, zE, zS, reduceAdd])
              (refine rg_do rfl fun K0 hK0 => ?_; simp only [zE, op1, ev, lkp, avOf, acOf, opIndexAddr, zG, Ty.dflt, Ty.size, Nat.mul_one, ne_eq, not_false_eq_true, Int.natCast_one, Int.mul_one, reduceCtorEq, reduceEqDiff, reduceAdd, reduceLeDiff, reduceLT, reduceMul, reduceSub, Try.el69, Try.td69, Mly.av, List.length_append, List.length_map, List.length_cons, List.length_nil, bN_len, bO_len, hgk1, hgk2]; (repeat refine And.intro (by first | omega | assumption | exact rfl) ?_); (first | refine hK0 _ ?_ | refine Or.inl (hK0 _ ?_)); clear hK0 K0; simp only [put, app, setAll, trOf, zE, zS, reduceAdd])
              (refine rg_do rfl fun K0 hK0 => ?_; simp only [zE, op1, ev, lkp, avOf, acOf, opLoad, Nat.mul_one, readAC, isAggK, acs, Ty.dflt, zG, cellsAt, reduceCtorEq, reduceEqDiff, reduceAdd, reduceLeDiff, reduceLT, reduceMul, reduceSub, Try.fl51, Try.st51, Try.td51, Mly.av, List.length_append, List.length_map, List.length_cons, List.length_nil, bN_len, bO_len, hgk1, hgk2]; (repeat refine And.intro (by first | omega | assumption | exact rfl) ?_); (first | refine hK0 _ ?_ | refine Or.inl (hK0 _ ?_)); clear hK0 K0; simp only [put, app, setAll, trOf, zE, zS, reduceAdd])
              (refine rg_do rfl fun K0 hK0 => ?_; simp only [zE, op1, ev, lkp, avOf, acOf, opFieldAddr, reduceCtorEq, reduceEqDiff, reduceAdd, reduceLeDiff, reduceLT, reduceMul, reduceSub, Try.st53, Try.td53, Mly.av, List.length_append, List.length_map, List.length_cons, List.length_nil, bN_len, bO_len, hgk1, hgk2]; (repeat refine And.intro (by first | omega | assumption | exact rfl) ?_); (first | refine hK0 _ ?_ | refine Or.inl (hK0 _ ?_)); clear hK0 K0; simp only [put, app, setAll, trOf, zE, zS, reduceAdd])
              (refine rg_do rfl fun K0 hK0 => ?_; simp only [zE, op1, ev, lkp, avOf, acOf, opLoad, Nat.mul_one, readAC, isAggK, acs, Ty.dflt, zG, cellsAt, reduceCtorEq, reduceEqDiff, reduceAdd, reduceLeDiff, reduceLT, reduceMul, reduceSub, Try.fl51, Try.st51, Try.td51, Mly.av, List.length_append, List.length_map, List.length_cons, List.length_nil, bN_len, bO_len, hgk1, hgk2]; (repeat refine And.intro (by first | omega | assumption | exact rfl) ?_); (first | refine hK0 _ ?_ | refine Or.inl (hK0 _ ?_)); clear hK0 K0; simp only [put, app, setAll, trOf, zE, zS, reduceAdd])
              (refine rg_do rfl fun K0 hK0 => ?_; simp only [zE, op1, ev, lkp, avOf, acOf, opBin, arith, inK_i64, eqACs, eqAC, reduceCtorEq, reduceEqDiff, reduceAdd, reduceLeDiff, reduceLT, reduceMul, reduceSub, Try.fl51, Try.st51, Try.td4, Try.td51, Mly.av, List.length_append, List.length_map, List.length_cons, List.length_nil, bN_len, bO_len, hgk1, hgk2]; (repeat refine And.intro (by first | omega | assumption | exact rfl) ?_); (first | refine hK0 _ ?_ | refine Or.inl (hK0 _ ?_)); clear hK0 K0; simp only [put, app, setAll, trOf, zE, zS, reduceAdd])
              (refine rg_step rfl fun K0 hK0 => ?_; simp only [zE, op1, ev, lkp, avOf, acOf, opPick, reduceCtorEq, reduceEqDiff, reduceAdd, reduceLeDiff, reduceLT, reduceMul, reduceSub, Try.td4, Mly.av, List.length_append, List.length_map, List.length_cons, List.length_nil, bN_len, bO_len, hgk1, hgk2]; (repeat refine And.intro (by first | omega | assumption | exact rfl) ?_); (first | refine hK0 _ ?_ | refine Or.inl (hK0 _ ?_)); clear hK0 K0; simp only [put, app, setAll, trOf, zE, zS, reduceAdd])
              refine rg_nil ?_
              refine ⟨by simp only [keepEnv, lkp, zE, reduceCtorEq, reduceEqDiff, argEnv, reduceAdd]; exact rfl, rfl, ?_, rfl⟩; (repeat refine keep_cons rfl ?_); exact keep_m (by exact rfl) hq26
            case b26 => exact tle_of (by first | rfl | (simp [tleB]; done) | decide)
            simp only [join_or, join_and]
            refine rg_nil ?_
            refine ⟨by kernel_rfl, ?_⟩
            refine hK25 _ ?_; clear hK25; refine awp_keep [0, 2, 6, 8, 9, 10, 11, 12, 13, 14, 15, 26, 27, 49] ?_; simp only [keepEnv, lkp, zE, reduceCtorEq, reduceEqDiff, argEnv, reduceAdd]
            refine awp_cond (by simp only [ev, keepEnv, lkp, zE, reduceCtorEq, reduceEqDiff, argEnv, reduceAdd]; exact rfl) (fun hc27 => ?_) (fun hc27 => ?_)
            · (try simp only [zB, reduceCtorEq] at hc27)
              have hne : (bL F (s.1.getD i d0) s.1 x).getD k d0 ≠ (F (s.1.getD i d0) x).1 := fun e => by
                have e1 := congrArg Prod.fst e; have e2 := congrArg Prod.snd e; have h9 := hc27; rw [e1, e2] at h9; simp at h9; done
              refine awp_skip ?_
              refine hK24 _ ?_; clear hK24; refine awp_keep [0, 2, 6, 8, 9, 10, 11, 12, 13, 14, 15, 26, 27, 49] ?_; simp only [keepEnv, lkp, zE, reduceCtorEq, reduceEqDiff, argEnv, reduceAdd]
              refine awp_block ?_
              refine awp_reg hP hN rfl ?_
              iterate 3 (refine rg_step rfl fun K0 hK0 => ?_; simp only [zE, op1, ev, lkp, avOf, acOf, opBin, arith, inK_i64, eqACs, eqAC, reduceCtorEq, reduceEqDiff, reduceAdd, reduceLeDiff, reduceLT, reduceMul, reduceSub, Try.td3, Mly.av, List.length_append, List.length_map, List.length_cons, List.length_nil, bN_len, bO_len]; (repeat refine And.intro (by first | omega | assumption | exact rfl) ?_); (first | refine hK0 _ ?_ | refine Or.inl (hK0 _ ?_)); clear hK0 K0; simp only [put, app, setAll, trOf, zE, zS, reduceAdd])
              refine rg_nil ?_
              refine ⟨_, _, ?_, sub_keep [0, 2, 6, 8, 9, 10, 11, 12, 13, 14, 15, 26, 27], k + 1, by omega, fun q hq2 => ?_, rfl, rfl⟩
              · omega
              · by_cases e : q = k
                · rw [e]; exact hne
                · exact hq q (by omega)
            · (try simp only [zB, reduceCtorEq] at hc27)
              obtain ⟨hpk, hin1, hin2⟩ := posP (l := (bL F (s.1.getD i d0) s.1 x)) (q := (F (s.1.getD i d0) x).1) (k := k) hq (by omega) (fun hkl => Prod.ext (by have h9 := hc27; omega) (by have h9 := hc27; omega))
              refine awp_exit ?_
              refine hK22 _ ?_; clear hK22; refine awp_keep [0, 2, 6, 8, 9, 10, 11, 12, 13, 14, 15, 26, 27, 49] ?_; simp only [keepEnv, lkp, zE, reduceCtorEq, reduceEqDiff, argEnv, reduceAdd]
              refine awp_seq_k fun K28 hK28 => ?_
              refine awp_seq_k fun K29 hK29 => ?_
              refine awp_reg hP hN rfl ?_
              iterate 4 (refine rg_step rfl fun K0 hK0 => ?_; simp only [zE, op1, ev, lkp, avOf, acOf, opCallAny, opMM, opLen, lenAC, lenOk, fpAC, Nat.div_one, opAppend, srcOf, Ty.size, datOf, dite_true, opBin, arith, inK_i64, eqACs, eqAC, reduceCtorEq, reduceEqDiff, reduceAdd, reduceLeDiff, reduceLT, reduceMul, reduceSub, Try.el69, Try.td3, Try.td4, Try.td69, Mly.av, List.length_append, List.length_map, List.length_cons, List.length_nil, bN_len, bO_len]; (repeat refine And.intro (by first | omega | assumption | exact rfl) ?_); (first | refine hK0 _ ?_ | refine Or.inl (hK0 _ ?_)); clear hK0 K0; simp only [put, app, setAll, trOf, zE, zS, reduceAdd])
              refine rg_nil ?_
              refine hK29 _ ?_; clear hK29; refine awp_keep [0, 2, 6, 8, 9, 10, 11, 12, 13, 14, 15, 26, 27, 49, 55] ?_; simp only [keepEnv, lkp, zE, reduceCtorEq, reduceEqDiff, argEnv, reduceAdd]
              refine awp_cond (by simp only [ev, keepEnv, lkp, zE, reduceCtorEq, reduceEqDiff, argEnv, reduceAdd]; exact rfl) (fun hc30 => ?_) (fun hc30 => ?_)
              · (try simp only [zB, reduceCtorEq] at hc30)
                have hout : (F (s.1.getD i d0) x).1 ∉ (bL F (s.1.getD i d0) s.1 x) := hin2 (by omega)
                have hl1 : (bL F (s.1.getD i d0) s.1 (x + 1)).length = (bL F (s.1.getD i d0) s.1 x).length + 1 := by rw [bL_succ, addG_out hout]; simp
                refine awp_reg hP hN rfl ?_
                iterate 6 (refine rg_step rfl fun K0 hK0 => ?_; simp only [zE, op1, ev, lkp, avOf, acOf, opFieldAddr, opLoad, Nat.mul_one, readAC, isAggK, acs, Ty.dflt, zG, cellsAt, opBuildSlice, fillAC, chunk, rep, datOf, writeAC, cellsAV, Ty.size, opCallAny, opMM, opLen, lenAC, lenOk, fpAC, Nat.div_one, opAppend, srcOf, dite_true, reduceCtorEq, reduceEqDiff, reduceAdd, reduceLeDiff, reduceLT, reduceMul, reduceSub, Try.el69, Try.fl51, Try.st51, Try.st53, Try.td1, Try.td51, Try.td53, Try.td69, Mly.av, List.length_append, List.length_map, List.length_cons, List.length_nil, bN_len, bO_len]; (repeat refine And.intro (by first | omega | assumption | exact rfl) ?_); (first | refine hK0 _ ?_ | refine Or.inl (hK0 _ ?_)); clear hK0 K0; simp only [put, app, setAll, trOf, zE, zS, reduceAdd])
                refine rg_nil ?_
                refine hK28 _ ?_; clear hK28; refine awp_keep [0, 2, 6, 8, 9, 10, 11, 12, 13, 14, 15, 26, 27, 49, 55] ?_; simp only [keepEnv, lkp, zE, reduceCtorEq, reduceEqDiff, argEnv, reduceAdd]
                refine awp_seq_k fun K31 hK31 => ?_
                refine awp_seq_k fun K32 hK32 => ?_
                refine awp_reg hP hN rfl ?_
                iterate 3 (refine rg_step rfl fun K0 hK0 => ?_; simp only [zE, op1, ev, lkp, avOf, acOf, opCallAny, opMM, opLen, lenAC, lenOk, fpAC, Nat.div_one, opAppend, srcOf, Ty.size, datOf, dite_true, opBin, arith, inK_i64, eqACs, eqAC, reduceCtorEq, reduceEqDiff, reduceAdd, reduceLeDiff, reduceLT, reduceMul, reduceSub, Try.el69, Try.td3, Try.td4, Try.td69, Mly.av, List.length_append, List.length_map, List.length_cons, List.length_nil, bN_len, bO_len]; (repeat refine And.intro (by first | omega | assumption | exact rfl) ?_); (first | refine hK0 _ ?_ | refine Or.inl (hK0 _ ?_)); clear hK0 K0; simp only [put, app, setAll, trOf, zE, zS, reduceAdd])
                (refine rg_step rfl fun K0 hK0 => ?_; simp only [zE, op1, ev, lkp, avOf, acOf, ev, reduceCtorEq, reduceEqDiff, reduceAdd, reduceLeDiff, reduceLT, reduceMul, reduceSub, Try.td4, Mly.av, List.length_append, List.length_map, List.length_cons, List.length_nil, bN_len, bO_len]; (repeat refine And.intro (by first | omega | assumption | exact rfl) ?_); (first | refine hK0 _ ?_ | refine Or.inl (hK0 _ ?_)); clear hK0 K0; simp only [put, app, setAll, trOf, zE, zS, reduceAdd])
                refine' rg_join_n (want := false) 3 rfl (m := 64) (by simp only [keepEnv, lkp, zE, reduceCtorEq, reduceEqDiff, argEnv, reduceAdd]; exact rfl) (by kernel_rfl) rfl rfl rfl rfl rfl (fun hg33 => ?a33) ?b33 ?c33
                case a33 =>
                  have hq33 := hg33; (try simp only [zB, reduceCtorEq] at hg33); simp only [List.take_succ_cons, List.take_zero, List.cons_append, List.nil_append]
                  (refine rg_do rfl fun K0 hK0 => ?_; simp only [zE, op1, ev, lkp, avOf, acOf, opFieldAddr, reduceCtorEq, reduceEqDiff, reduceAdd, reduceLeDiff, reduceLT, reduceMul, reduceSub, Try.st53, Try.td1, Try.td53, Mly.av, List.length_append, List.length_map, List.length_cons, List.length_nil, bN_len, bO_len]; (repeat refine And.intro (by first | omega | assumption | exact rfl) ?_); (first | refine hK0 _ ?_ | refine Or.inl (hK0 _ ?_)); clear hK0 K0; simp only [put, app, setAll, trOf, zE, zS, reduceAdd])
                  (refine rg_do rfl fun K0 hK0 => ?_; simp only [zE, op1, ev, lkp, avOf, acOf, opLoad, Nat.mul_one, readAC, isAggK, acs, Ty.dflt, zG, cellsAt, reduceCtorEq, reduceEqDiff, reduceAdd, reduceLeDiff, reduceLT, reduceMul, reduceSub, Try.td3, Mly.av, List.length_append, List.length_map, List.length_cons, List.length_nil, bN_len, bO_len]; (repeat refine And.intro (by first | omega | assumption | exact rfl) ?_); (first | refine hK0 _ ?_ | refine Or.inl (hK0 _ ?_)); clear hK0 K0; simp only [put, app, setAll, trOf, zE, zS, reduceAdd])
                  (refine rg_do rfl fun K0 hK0 => ?_; simp only [zE, op1, ev, lkp, avOf, acOf, opBin, arith, inK_i64, eqACs, eqAC, reduceCtorEq, reduceEqDiff, reduceAdd, reduceLeDiff, reduceLT, reduceMul, reduceSub, Try.td3, Try.td4, Mly.av, List.length_append, List.length_map, List.length_cons, List.length_nil, bN_len, bO_len]; (repeat refine And.intro (by first | omega | assumption | exact rfl) ?_); (first | refine hK0 _ ?_ | refine Or.inl (hK0 _ ?_)); clear hK0 K0; simp only [put, app, setAll, trOf, zE, zS, reduceAdd])
                  (refine rg_step rfl fun K0 hK0 => ?_; simp only [zE, op1, ev, lkp, avOf, acOf, opPick, reduceCtorEq, reduceEqDiff, reduceAdd, reduceLeDiff, reduceLT, reduceMul, reduceSub, Try.td4, Mly.av, List.length_append, List.length_map, List.length_cons, List.length_nil, bN_len, bO_len]; (repeat refine And.intro (by first | omega | assumption | exact rfl) ?_); (first | refine hK0 _ ?_ | refine Or.inl (hK0 _ ?_)); clear hK0 K0; simp only [put, app, setAll, trOf, zE, zS, reduceAdd])
                  refine rg_nil ?_
                  refine ⟨by simp only [keepEnv, lkp, zE, reduceCtorEq, reduceEqDiff, argEnv, reduceAdd]; exact rfl, rfl, ?_, rfl⟩; (repeat refine keep_cons rfl ?_); exact keep_m (by exact rfl) hq33
                case b33 => exact tle_of (by first | rfl | (simp [tleB]; done) | decide)
                simp only [join_or, join_and]
                refine rg_nil ?_
                refine hK32 _ ?_; clear hK32; refine awp_keep [0, 2, 6, 8, 9, 10, 11, 12, 13, 14, 15, 26, 27, 49, 55, 68] ?_; simp only [keepEnv, lkp, zE, reduceCtorEq, reduceEqDiff, argEnv, reduceAdd]
                refine awp_cond (by simp only [ev, keepEnv, lkp, zE, reduceCtorEq, reduceEqDiff, argEnv, reduceAdd]; exact rfl) (fun hc34 => ?_) (fun hc34 => ?_)
                · (try simp only [zB, reduceCtorEq] at hc34)
                  have hbx0 : bX F (s.1.getD i d0) s.1 x = true := by simp only [bX, Bool.or_eq_true, decide_eq_true_eq]; omega
                  refine awp_seq_k fun K35 hK35 => ?_
                  refine awp_reg hP hN rfl ?_
                  iterate 3 (refine rg_step rfl fun K0 hK0 => ?_; simp only [zE, op1, ev, lkp, avOf, acOf, opBuild, fillAC, writeAC, cellsAV, opStore, Nat.mul_one, datOf, acs, Ty.size, Ty.dflt, zG, reduceCtorEq, reduceEqDiff, reduceAdd, reduceLeDiff, reduceLT, reduceMul, reduceSub, Try.st24, Try.td24, Try.td27, Mly.av, List.length_append, List.length_map, List.length_cons, List.length_nil, bN_len, bO_len]; (repeat refine And.intro (by first | omega | assumption | exact rfl) ?_); (first | refine hK0 _ ?_ | refine Or.inl (hK0 _ ?_)); clear hK0 K0; simp only [put, app, setAll, trOf, zE, zS, reduceAdd])
                  refine rg_nil ?_
                  refine hK35 _ ?_; clear hK35; refine awp_keep [0, 2, 6, 7, 8, 9, 10, 11, 12, 13, 14, 15, 26, 27, 49, 55, 68] ?_; simp only [keepEnv, lkp, zE, reduceCtorEq, reduceEqDiff, argEnv, reduceAdd]
                  refine awp_ret ?_
                  refine ⟨by first | exact .inl rfl | exact .inr rfl, _, rfl, ?_⟩; simp only [fzV, fz1, fzC, List.map_cons, List.map_nil, keepEnv, lkp, zE, reduceCtorEq, reduceEqDiff, argEnv, reduceAdd, Mly.av, List.length_append, List.length_map, List.length_cons, List.length_nil, bN_len, bO_len]
                  first
                  | (have hbad := bF_bad (F := F) (n := n) (f := 130 - i) (s := s) hil9 (y := x) (by omega) hbx0
                     rw [hbf] at hbad; rw [bM_none hbad, bE_none hbad]
                     exact vle_tup ⟨vle1_agg ⟨.refl _, .refl _, cle_nils rfl, cle_nils rfl, trivial⟩, vle1_one (.refl _), trivial⟩)
                  | (have hend := bF_end F n (129 - i) i s (by omega)
                     rw [show 129 - i + 1 = 130 - i by omega, hbf] at hend
                     rw [bM_some hend, bE_some hend]; exact VLE.of_eq (by simp [fzC]; rfl))
                · (try simp only [zB, reduceCtorEq] at hc34)
                  have hbx0 : bX F (s.1.getD i d0) s.1 x = false := by simp only [bX, Bool.or_eq_false_iff, decide_eq_false_iff_not]; omega
                  refine awp_skip ?_
                  refine hK31 _ ?_; clear hK31; refine awp_keep [0, 2, 6, 8, 9, 10, 11, 12, 13, 14, 15, 26, 27, 49, 55, 68] ?_; simp only [keepEnv, lkp, zE, reduceCtorEq, reduceEqDiff, argEnv, reduceAdd]
                  refine awp_seq_k fun K36 hK36 => ?_
                  refine awp_reg hP hN rfl ?_
                  iterate 5 (refine rg_step rfl fun K0 hK0 => ?_; simp only [zE, op1, ev, lkp, avOf, acOf, opBuildSlice, fillAC, chunk, rep, datOf, writeAC, cellsAV, Ty.size, opCallAny, opMM, opLen, lenAC, lenOk, fpAC, Nat.div_one, opAppend, srcOf, dite_true, reduceCtorEq, reduceEqDiff, reduceAdd, reduceLeDiff, reduceLT, reduceMul, reduceSub, Try.el33, Try.td1, Try.td3, Try.td33, Mly.av, List.length_append, List.length_map, List.length_cons, List.length_nil, bN_len, bO_len]; (repeat refine And.intro (by first | omega | assumption | exact rfl) ?_); (first | refine hK0 _ ?_ | refine Or.inl (hK0 _ ?_)); clear hK0 K0; simp only [put, app, setAll, trOf, zE, zS, reduceAdd])
                  refine rg_nil ?_
                  refine hK36 _ ?_; clear hK36; refine awp_keep [0, 2, 6, 8, 9, 10, 11, 12, 13, 14, 15, 26, 27, 49, 55, 68] ?_; simp only [keepEnv, lkp, zE, reduceCtorEq, reduceEqDiff, argEnv, reduceAdd]
                  refine awp_reg hP hN rfl ?_
                  iterate 6 (refine rg_step rfl fun K0 hK0 => ?_; simp only [zE, op1, ev, lkp, avOf, acOf, opFieldAddr, opLoad, Nat.mul_one, readAC, isAggK, acs, Ty.dflt, zG, cellsAt, opBuildSlice, fillAC, chunk, rep, datOf, writeAC, cellsAV, Ty.size, opCallAny, opMM, opLen, lenAC, lenOk, fpAC, Nat.div_one, opAppend, srcOf, dite_true, reduceCtorEq, reduceEqDiff, reduceAdd, reduceLeDiff, reduceLT, reduceMul, reduceSub, Try.el33, Try.st53, Try.td1, Try.td3, Try.td33, Try.td53, Mly.av, List.length_append, List.length_map, List.length_cons, List.length_nil, bN_len, bO_len]; (repeat refine And.intro (by first | omega | assumption | exact rfl) ?_); (first | refine hK0 _ ?_ | refine Or.inl (hK0 _ ?_)); clear hK0 K0; simp only [put, app, setAll, trOf, zE, zS, reduceAdd])
                  refine rg_nil ?_
                  refine hK18 _ ?_; clear hK18; refine awp_keep [0, 2, 6, 8, 9, 10, 11, 12, 13, 14, 15, 26, 27, 49, 55, 68] ?_; simp only [keepEnv, lkp, zE, reduceCtorEq, reduceEqDiff, argEnv, reduceAdd]
                  refine awp_keep [0, 2, 6, 8, 9, 10, 11, 12, 26, 27] ?_; simp only [keepEnv, lkp, zE, reduceCtorEq, reduceEqDiff]
                  refine awp_pop (L1 := [_, _, _, _, _, _, _, _]) rfl hB (by simp only [List.all_cons, List.all_nil, freeV, free1, pats_free hcap]; rfl) rfl ?_
                  refine awp_reg hP hN rfl ?_
                  iterate 2 (refine rg_step rfl fun K0 hK0 => ?_; simp only [zE, op1, ev, lkp, avOf, acOf, opBin, arith, inK_i64, eqACs, eqAC, reduceCtorEq, reduceEqDiff, reduceAdd, reduceLeDiff, reduceLT, reduceMul, reduceSub, Try.td3, Mly.av, List.length_append, List.length_map, List.length_cons, List.length_nil, bN_len, bO_len]; (repeat refine And.intro (by first | omega | assumption | exact rfl) ?_); (first | refine hK0 _ ?_ | refine Or.inl (hK0 _ ?_)); clear hK0 K0; simp only [put, app, setAll, trOf, zE, zS, reduceAdd])
                  refine rg_nil ?_
                  have hle3 : (bL F (s.1.getD i d0) s.1 (x + 1)).length ≤ 128 := by
                    have h9 := hbx0
                    simp only [bX, Bool.or_eq_false_iff, decide_eq_false_iff_not] at h9
                    omega
                  have hI3 : ∀ q, q ∈ bL F (s.1.getD i d0) s.1 (x + 1) → I q := fun q hq9 => by
                    rw [bL_succ, addG_mem] at hq9
                    rcases hq9 with h9 | h9
                    · exact hIx q h9
                    · rw [h9]; exact hKI _ (hI _ (mem_d0 (by omega))) x (by omega)
                  have hb3 : ∀ y, y < x + 1 → bX F (s.1.getD i d0) s.1 y = false := fun y hy => by
                    by_cases e : y = x
                    · rw [e]; exact hbx0
                    · exact hbx y (by omega)
                  first
                  | (have hnin : (F (s.1.getD i d0) x).1 ∉ (bL F (s.1.getD i d0) s.1 x) := hout
                     refine ⟨_, _, ?_, sub_keep [0, 2, 6, 8, 9, 10, 11, 12, 26, 27], x + 1, v2 + 1, w + 1, by omega, hle3, hb3, hI3, rfl, ?_⟩
                     · omega
                     · rw [bL_succ, addG_out hnin, List.map_append, bN_succ, bO_succ, ← hpk]; rfl)
                  | (have hnin : (F (s.1.getD i d0) x).1 ∈ (bL F (s.1.getD i d0) s.1 x) := hin
                     refine ⟨_, _, ?_, sub_keep [0, 2, 6, 8, 9, 10, 11, 12, 26, 27], x + 1, v2, w + 1, by omega, hle3, hb3, hI3, rfl, ?_⟩
                     · omega
                     · rw [bL_succ, addG_in hnin, bN_succ, bO_succ, ← hpk]; rfl)
              · (try simp only [zB, reduceCtorEq] at hc30)
                have hin : (F (s.1.getD i d0) x).1 ∈ (bL F (s.1.getD i d0) s.1 x) := hin1 (by omega)
                have hl1 : (bL F (s.1.getD i d0) s.1 (x + 1)).length = (bL F (s.1.getD i d0) s.1 x).length := by rw [bL_succ, addG_in hin]
                refine awp_skip ?_
                refine hK28 _ ?_; clear hK28; refine awp_keep [0, 2, 6, 8, 9, 10, 11, 12, 13, 14, 15, 26, 27, 49, 55] ?_; simp only [keepEnv, lkp, zE, reduceCtorEq, reduceEqDiff, argEnv, reduceAdd]
                refine awp_seq_k fun K37 hK37 => ?_
                refine awp_seq_k fun K38 hK38 => ?_
                refine awp_reg hP hN rfl ?_
                iterate 3 (refine rg_step rfl fun K0 hK0 => ?_; simp only [zE, op1, ev, lkp, avOf, acOf, opCallAny, opMM, opLen, lenAC, lenOk, fpAC, Nat.div_one, opAppend, srcOf, Ty.size, datOf, dite_true, opBin, arith, inK_i64, eqACs, eqAC, reduceCtorEq, reduceEqDiff, reduceAdd, reduceLeDiff, reduceLT, reduceMul, reduceSub, Try.el69, Try.td3, Try.td4, Try.td69, Mly.av, List.length_append, List.length_map, List.length_cons, List.length_nil, bN_len, bO_len]; (repeat refine And.intro (by first | omega | assumption | exact rfl) ?_); (first | refine hK0 _ ?_ | refine Or.inl (hK0 _ ?_)); clear hK0 K0; simp only [put, app, setAll, trOf, zE, zS, reduceAdd])
                (refine rg_step rfl fun K0 hK0 => ?_; simp only [zE, op1, ev, lkp, avOf, acOf, ev, reduceCtorEq, reduceEqDiff, reduceAdd, reduceLeDiff, reduceLT, reduceMul, reduceSub, Try.td4, Mly.av, List.length_append, List.length_map, List.length_cons, List.length_nil, bN_len, bO_len]; (repeat refine And.intro (by first | omega | assumption | exact rfl) ?_); (first | refine hK0 _ ?_ | refine Or.inl (hK0 _ ?_)); clear hK0 K0; simp only [put, app, setAll, trOf, zE, zS, reduceAdd])
                refine' rg_join_n (want := false) 3 rfl (m := 64) (by simp only [keepEnv, lkp, zE, reduceCtorEq, reduceEqDiff, argEnv, reduceAdd]; exact rfl) (by kernel_rfl) rfl rfl rfl rfl rfl (fun hg39 => ?a39) ?b39 ?c39
                case a39 =>
                  have hq39 := hg39; (try simp only [zB, reduceCtorEq] at hg39); simp only [List.take_succ_cons, List.take_zero, List.cons_append, List.nil_append]
                  (refine rg_do rfl fun K0 hK0 => ?_; simp only [zE, op1, ev, lkp, avOf, acOf, opFieldAddr, reduceCtorEq, reduceEqDiff, reduceAdd, reduceLeDiff, reduceLT, reduceMul, reduceSub, Try.st53, Try.td1, Try.td53, Mly.av, List.length_append, List.length_map, List.length_cons, List.length_nil, bN_len, bO_len]; (repeat refine And.intro (by first | omega | assumption | exact rfl) ?_); (first | refine hK0 _ ?_ | refine Or.inl (hK0 _ ?_)); clear hK0 K0; simp only [put, app, setAll, trOf, zE, zS, reduceAdd])
                  (refine rg_do rfl fun K0 hK0 => ?_; simp only [zE, op1, ev, lkp, avOf, acOf, opLoad, Nat.mul_one, readAC, isAggK, acs, Ty.dflt, zG, cellsAt, reduceCtorEq, reduceEqDiff, reduceAdd, reduceLeDiff, reduceLT, reduceMul, reduceSub, Try.td3, Mly.av, List.length_append, List.length_map, List.length_cons, List.length_nil, bN_len, bO_len]; (repeat refine And.intro (by first | omega | assumption | exact rfl) ?_); (first | refine hK0 _ ?_ | refine Or.inl (hK0 _ ?_)); clear hK0 K0; simp only [put, app, setAll, trOf, zE, zS, reduceAdd])
                  (refine rg_do rfl fun K0 hK0 => ?_; simp only [zE, op1, ev, lkp, avOf, acOf, opBin, arith, inK_i64, eqACs, eqAC, reduceCtorEq, reduceEqDiff, reduceAdd, reduceLeDiff, reduceLT, reduceMul, reduceSub, Try.td3, Try.td4, Mly.av, List.length_append, List.length_map, List.length_cons, List.length_nil, bN_len, bO_len]; (repeat refine And.intro (by first | omega | assumption | exact rfl) ?_); (first | refine hK0 _ ?_ | refine Or.inl (hK0 _ ?_)); clear hK0 K0; simp only [put, app, setAll, trOf, zE, zS, reduceAdd])
                  (refine rg_step rfl fun K0 hK0 => ?_; simp only [zE, op1, ev, lkp, avOf, acOf, opPick, reduceCtorEq, reduceEqDiff, reduceAdd, reduceLeDiff, reduceLT, reduceMul, reduceSub, Try.td4, Mly.av, List.length_append, List.length_map, List.length_cons, List.length_nil, bN_len, bO_len]; (repeat refine And.intro (by first | omega | assumption | exact rfl) ?_); (first | refine hK0 _ ?_ | refine Or.inl (hK0 _ ?_)); clear hK0 K0; simp only [put, app, setAll, trOf, zE, zS, reduceAdd])
                  refine rg_nil ?_
                  refine ⟨by simp only [keepEnv, lkp, zE, reduceCtorEq, reduceEqDiff, argEnv, reduceAdd]; exact rfl, rfl, ?_, rfl⟩; (repeat refine keep_cons rfl ?_); exact keep_m (by exact rfl) hq39
                case b39 => exact tle_of (by first | rfl | (simp [tleB]; done) | decide)
                simp only [join_or, join_and]
                refine rg_nil ?_
                refine hK38 _ ?_; clear hK38; refine awp_keep [0, 2, 6, 8, 9, 10, 11, 12, 13, 14, 15, 26, 27, 49, 55, 68] ?_; simp only [keepEnv, lkp, zE, reduceCtorEq, reduceEqDiff, argEnv, reduceAdd]
                refine awp_cond (by simp only [ev, keepEnv, lkp, zE, reduceCtorEq, reduceEqDiff, argEnv, reduceAdd]; exact rfl) (fun hc40 => ?_) (fun hc40 => ?_)
                · (try simp only [zB, reduceCtorEq] at hc40)
                  have hbx0 : bX F (s.1.getD i d0) s.1 x = true := by simp only [bX, Bool.or_eq_true, decide_eq_true_eq]; omega
                  refine awp_seq_k fun K41 hK41 => ?_
                  refine awp_reg hP hN rfl ?_
                  iterate 3 (refine rg_step rfl fun K0 hK0 => ?_; simp only [zE, op1, ev, lkp, avOf, acOf, opBuild, fillAC, writeAC, cellsAV, opStore, Nat.mul_one, datOf, acs, Ty.size, Ty.dflt, zG, reduceCtorEq, reduceEqDiff, reduceAdd, reduceLeDiff, reduceLT, reduceMul, reduceSub, Try.st24, Try.td24, Try.td27, Mly.av, List.length_append, List.length_map, List.length_cons, List.length_nil, bN_len, bO_len]; (repeat refine And.intro (by first | omega | assumption | exact rfl) ?_); (first | refine hK0 _ ?_ | refine Or.inl (hK0 _ ?_)); clear hK0 K0; simp only [put, app, setAll, trOf, zE, zS, reduceAdd])
                  refine rg_nil ?_
                  refine hK41 _ ?_; clear hK41; refine awp_keep [0, 2, 6, 7, 8, 9, 10, 11, 12, 13, 14, 15, 26, 27, 49, 55, 68] ?_; simp only [keepEnv, lkp, zE, reduceCtorEq, reduceEqDiff, argEnv, reduceAdd]
                  refine awp_ret ?_
                  refine ⟨by first | exact .inl rfl | exact .inr rfl, _, rfl, ?_⟩; simp only [fzV, fz1, fzC, List.map_cons, List.map_nil, keepEnv, lkp, zE, reduceCtorEq, reduceEqDiff, argEnv, reduceAdd, Mly.av, List.length_append, List.length_map, List.length_cons, List.length_nil, bN_len, bO_len]
                  first
                  | (have hbad := bF_bad (F := F) (n := n) (f := 130 - i) (s := s) hil9 (y := x) (by omega) hbx0
                     rw [hbf] at hbad; rw [bM_none hbad, bE_none hbad]
                     exact vle_tup ⟨vle1_agg ⟨.refl _, .refl _, cle_nils rfl, cle_nils rfl, trivial⟩, vle1_one (.refl _), trivial⟩)
                  | (have hend := bF_end F n (129 - i) i s (by omega)
                     rw [show 129 - i + 1 = 130 - i by omega, hbf] at hend
                     rw [bM_some hend, bE_some hend]; exact VLE.of_eq (by simp [fzC]; rfl))
                · (try simp only [zB, reduceCtorEq] at hc40)
                  have hbx0 : bX F (s.1.getD i d0) s.1 x = false := by simp only [bX, Bool.or_eq_false_iff, decide_eq_false_iff_not]; omega
                  refine awp_skip ?_
                  refine hK37 _ ?_; clear hK37; refine awp_keep [0, 2, 6, 8, 9, 10, 11, 12, 13, 14, 15, 26, 27, 49, 55, 68] ?_; simp only [keepEnv, lkp, zE, reduceCtorEq, reduceEqDiff, argEnv, reduceAdd]
                  refine awp_seq_k fun K42 hK42 => ?_
                  refine awp_reg hP hN rfl ?_
                  iterate 5 (refine rg_step rfl fun K0 hK0 => ?_; simp only [zE, op1, ev, lkp, avOf, acOf, opBuildSlice, fillAC, chunk, rep, datOf, writeAC, cellsAV, Ty.size, opCallAny, opMM, opLen, lenAC, lenOk, fpAC, Nat.div_one, opAppend, srcOf, dite_true, reduceCtorEq, reduceEqDiff, reduceAdd, reduceLeDiff, reduceLT, reduceMul, reduceSub, Try.el33, Try.td1, Try.td3, Try.td33, Mly.av, List.length_append, List.length_map, List.length_cons, List.length_nil, bN_len, bO_len]; (repeat refine And.intro (by first | omega | assumption | exact rfl) ?_); (first | refine hK0 _ ?_ | refine Or.inl (hK0 _ ?_)); clear hK0 K0; simp only [put, app, setAll, trOf, zE, zS, reduceAdd])
                  refine rg_nil ?_
                  refine hK42 _ ?_; clear hK42; refine awp_keep [0, 2, 6, 8, 9, 10, 11, 12, 13, 14, 15, 26, 27, 49, 55, 68] ?_; simp only [keepEnv, lkp, zE, reduceCtorEq, reduceEqDiff, argEnv, reduceAdd]
                  refine awp_reg hP hN rfl ?_
                  iterate 6 (refine rg_step rfl fun K0 hK0 => ?_; simp only [zE, op1, ev, lkp, avOf, acOf, opFieldAddr, opLoad, Nat.mul_one, readAC, isAggK, acs, Ty.dflt, zG, cellsAt, opBuildSlice, fillAC, chunk, rep, datOf, writeAC, cellsAV, Ty.size, opCallAny, opMM, opLen, lenAC, lenOk, fpAC, Nat.div_one, opAppend, srcOf, dite_true, reduceCtorEq, reduceEqDiff, reduceAdd, reduceLeDiff, reduceLT, reduceMul, reduceSub, Try.el33, Try.st53, Try.td1, Try.td3, Try.td33, Try.td53, Mly.av, List.length_append, List.length_map, List.length_cons, List.length_nil, bN_len, bO_len]; (repeat refine And.intro (by first | omega | assumption | exact rfl) ?_); (first | refine hK0 _ ?_ | refine Or.inl (hK0 _ ?_)); clear hK0 K0; simp only [put, app, setAll, trOf, zE, zS, reduceAdd])
                  refine rg_nil ?_
                  refine hK18 _ ?_; clear hK18; refine awp_keep [0, 2, 6, 8, 9, 10, 11, 12, 13, 14, 15, 26, 27, 49, 55, 68] ?_; simp only [keepEnv, lkp, zE, reduceCtorEq, reduceEqDiff, argEnv, reduceAdd]
                  refine awp_keep [0, 2, 6, 8, 9, 10, 11, 12, 26, 27] ?_; simp only [keepEnv, lkp, zE, reduceCtorEq, reduceEqDiff]
                  refine awp_pop (L1 := [_, _, _, _, _, _, _, _]) rfl hB (by simp only [List.all_cons, List.all_nil, freeV, free1, pats_free hcap]; rfl) rfl ?_
                  refine awp_reg hP hN rfl ?_
                  iterate 2 (refine rg_step rfl fun K0 hK0 => ?_; simp only [zE, op1, ev, lkp, avOf, acOf, opBin, arith, inK_i64, eqACs, eqAC, reduceCtorEq, reduceEqDiff, reduceAdd, reduceLeDiff, reduceLT, reduceMul, reduceSub, Try.td3, Mly.av, List.length_append, List.length_map, List.length_cons, List.length_nil, bN_len, bO_len]; (repeat refine And.intro (by first | omega | assumption | exact rfl) ?_); (first | refine hK0 _ ?_ | refine Or.inl (hK0 _ ?_)); clear hK0 K0; simp only [put, app, setAll, trOf, zE, zS, reduceAdd])
                  refine rg_nil ?_
                  have hle3 : (bL F (s.1.getD i d0) s.1 (x + 1)).length ≤ 128 := by
                    have h9 := hbx0
                    simp only [bX, Bool.or_eq_false_iff, decide_eq_false_iff_not] at h9
                    omega
                  have hI3 : ∀ q, q ∈ bL F (s.1.getD i d0) s.1 (x + 1) → I q := fun q hq9 => by
                    rw [bL_succ, addG_mem] at hq9
                    rcases hq9 with h9 | h9
                    · exact hIx q h9
                    · rw [h9]; exact hKI _ (hI _ (mem_d0 (by omega))) x (by omega)
                  have hb3 : ∀ y, y < x + 1 → bX F (s.1.getD i d0) s.1 y = false := fun y hy => by
                    by_cases e : y = x
                    · rw [e]; exact hbx0
                    · exact hbx y (by omega)
                  first
                  | (have hnin : (F (s.1.getD i d0) x).1 ∉ (bL F (s.1.getD i d0) s.1 x) := hout
                     refine ⟨_, _, ?_, sub_keep [0, 2, 6, 8, 9, 10, 11, 12, 26, 27], x + 1, v2 + 1, w + 1, by omega, hle3, hb3, hI3, rfl, ?_⟩
                     · omega
                     · rw [bL_succ, addG_out hnin, List.map_append, bN_succ, bO_succ, ← hpk]; rfl)
                  | (have hnin : (F (s.1.getD i d0) x).1 ∈ (bL F (s.1.getD i d0) s.1 x) := hin
                     refine ⟨_, _, ?_, sub_keep [0, 2, 6, 8, 9, 10, 11, 12, 26, 27], x + 1, v2, w + 1, by omega, hle3, hb3, hI3, rfl, ?_⟩
                     · omega
                     · rw [bL_succ, addG_in hnin, bN_succ, bO_succ, ← hpk]; rfl)
        · (try simp only [zB, reduceCtorEq] at hc17)
          refine awp_exit ?_
          refine hK12 _ ?_; clear hK12; refine awp_keep [0, 2, 6, 8, 9, 10, 11, 12, 26, 27, 28] ?_; simp only [keepEnv, lkp, zE, reduceCtorEq, reduceEqDiff, argEnv, reduceAdd]
          refine awp_seq_k fun K43 hK43 => ?_
          refine awp_freeze 6 rfl ?_; simp only [List.map_cons, List.map_nil, zS, reduceEqDiff, and_self, and_true, true_and, and_false, false_and, if_true, if_false, eq_self, reduceCtorEq, Nat.one_ne_zero, Nat.zero_ne_one]
          refine awp_freeze 7 rfl ?_; simp only [List.map_cons, List.map_nil, zS, reduceEqDiff, and_self, and_true, true_and, and_false, false_and, if_true, if_false, eq_self, reduceCtorEq, Nat.one_ne_zero, Nat.zero_ne_one]
          refine awp_reg hP hN rfl ?_
          iterate 7 (refine rg_step rfl fun K0 hK0 => ?_; simp only [zE, op1, ev, lkp, avOf, acOf, opFieldAddr, opLoad, Nat.mul_one, readAC, isAggK, acs, Ty.dflt, zG, cellsAt, opBuildSlice, fillAC, chunk, rep, datOf, writeAC, cellsAV, Ty.size, opCallAny, opMM, opLen, lenAC, lenOk, fpAC, Nat.div_one, opAppend, srcOf, dite_true, opStore, reduceCtorEq, reduceEqDiff, reduceAdd, reduceLeDiff, reduceLT, reduceMul, reduceSub, Try.el22, Try.el33, Try.st24, Try.td1, Try.td2, Try.td22, Try.td24, Try.td33, Mly.av, List.length_append, List.length_map, List.length_cons, List.length_nil, bN_len, bO_len]; (repeat refine And.intro (by first | omega | assumption | exact rfl) ?_); (first | refine hK0 _ ?_ | refine Or.inl (hK0 _ ?_)); clear hK0 K0; simp only [put, app, setAll, trOf, zE, zS, reduceAdd])
          refine rg_nil ?_
          refine hK43 _ ?_; clear hK43; refine awp_keep [0, 2, 6, 8, 9, 10, 11, 12, 26, 27, 28] ?_; simp only [keepEnv, lkp, zE, reduceCtorEq, reduceEqDiff, argEnv, reduceAdd]
          refine awp_reg hP hN rfl ?_
          iterate 7 (refine rg_step rfl fun K0 hK0 => ?_; simp only [zE, op1, ev, lkp, avOf, acOf, opFieldAddr, opLoad, Nat.mul_one, readAC, isAggK, acs, Ty.dflt, zG, cellsAt, opBuildSlice, fillAC, chunk, rep, datOf, writeAC, cellsAV, Ty.size, opCallAny, opMM, opLen, lenAC, lenOk, fpAC, Nat.div_one, opAppend, srcOf, dite_true, opStore, reduceCtorEq, reduceEqDiff, reduceAdd, reduceLeDiff, reduceLT, reduceMul, reduceSub, Try.el22, Try.el33, Try.st24, Try.td1, Try.td22, Try.td24, Try.td3, Try.td33, Mly.av, List.length_append, List.length_map, List.length_cons, List.length_nil, bN_len, bO_len]; (repeat refine And.intro (by first | omega | assumption | exact rfl) ?_); (first | refine hK0 _ ?_ | refine Or.inl (hK0 _ ?_)); clear hK0 K0; simp only [put, app, setAll, trOf, zE, zS, reduceAdd])
          refine rg_nil ?_
          refine hK10 _ ?_; clear hK10; refine awp_keep [0, 2, 6, 8, 9, 10, 11, 12, 26, 27, 28] ?_; simp only [keepEnv, lkp, zE, reduceCtorEq, reduceEqDiff, argEnv, reduceAdd]
          refine awp_keep [0, 2, 6, 8, 9, 10] ?_; simp only [keepEnv, lkp, zE, reduceCtorEq, reduceEqDiff]
          refine awp_drop (n := 7) (L1 := [_, _, _, _, _, _, _]) rfl rfl (by rw [hB]; decide) (by simp only [List.all_cons, List.all_nil, freeV, free1, pats_free hcap]; rfl) rfl ?_; refine awp_drop (n := 6) (L1 := [_, _, _, _, _, _]) rfl rfl (by rw [hB]; decide) (by simp only [List.all_cons, List.all_nil, freeV, free1, pats_free hcap]; rfl) rfl ?_
          refine awp_reg hP hN rfl ?_
          iterate 3 (refine rg_step rfl fun K0 hK0 => ?_; simp only [zE, op1, ev, lkp, avOf, acOf, opBin, arith, inK_i64, eqACs, eqAC, reduceCtorEq, reduceEqDiff, reduceAdd, reduceLeDiff, reduceLT, reduceMul, reduceSub, Try.td3, Mly.av, List.length_append, List.length_map, List.length_cons, List.length_nil, bN_len, bO_len]; (repeat refine And.intro (by first | omega | assumption | exact rfl) ?_); (first | refine hK0 _ ?_ | refine Or.inl (hK0 _ ?_)); clear hK0 K0; simp only [put, app, setAll, trOf, zE, zS, reduceAdd])
          refine rg_nil ?_
          have hil : i < s.1.length := by omega
          have hIp : I (s.1.getD i d0) := hI _ (mem_d0 hil)
          have hxn : n = x := by omega
          subst hxn
          have hgeB := bL_ge F (s.1.getD i d0) s.1 n
          refine ⟨_, _, ?_, sub_keep [0, 2, 6, 8, 9, 10], i + 1, bA F n i s, v2, u + 1, hxl, by show i + 1 ≤ (bL F (s.1.getD i d0) s.1 n).length; omega, ?_, hIx, by show (s.2.1 ++ [_]).length = i + 1; rw [List.length_append, hnl]; rfl, by show (s.2.2 ++ [_]).length = i + 1; rw [List.length_append, hol]; rfl, rfl, rfl⟩
          · omega
          · rw [← hbf, show 130 - i = (130 - (i + 1)) + 1 by omega, bF_step hil hbx]
    · (try simp only [zB, reduceCtorEq] at hc9)
      refine awp_exit ?_
      refine hK4 _ ?_; clear hK4; refine awp_keep [0, 2, 6, 8, 9, 10, 23] ?_; simp only [keepEnv, lkp, zE, reduceCtorEq, reduceEqDiff, argEnv, reduceAdd]
      refine awp_seq_k fun K44 hK44 => ?_
      refine awp_reg hP hN rfl ?_
      iterate 3 (refine rg_step rfl fun K0 hK0 => ?_; simp only [zE, op1, ev, lkp, avOf, acOf, opLoad, Nat.mul_one, readAC, isAggK, acs, Ty.dflt, zG, cellsAt, opStore, cellsAV, writeAC, datOf, Ty.size, reduceCtorEq, reduceEqDiff, reduceAdd, reduceLeDiff, reduceLT, reduceMul, reduceSub, Try.st24, Try.td24, Try.td27, Mly.av, List.length_append, List.length_map, List.length_cons, List.length_nil, bN_len, bO_len]; (repeat refine And.intro (by first | omega | assumption | exact rfl) ?_); (first | refine hK0 _ ?_ | refine Or.inl (hK0 _ ?_)); clear hK0 K0; simp only [put, app, setAll, trOf, zE, zS, reduceAdd])
      refine rg_nil ?_
      refine hK44 _ ?_; clear hK44; refine awp_keep [0, 2, 6, 7, 8, 9, 10, 23] ?_; simp only [keepEnv, lkp, zE, reduceCtorEq, reduceEqDiff, argEnv, reduceAdd]
      refine awp_ret ?_
      refine ⟨by first | exact .inl rfl | exact .inr rfl, _, rfl, ?_⟩; simp only [fzV, fz1, fzC, List.map_cons, List.map_nil, keepEnv, lkp, zE, reduceCtorEq, reduceEqDiff, argEnv, reduceAdd, Mly.av, List.length_append, List.length_map, List.length_cons, List.length_nil, bN_len, bO_len]
      first
      | (have hbad := bF_bad (F := F) (n := n) (f := 130 - i) (s := s) hil9 (y := x) (by omega) hbx0
         rw [hbf] at hbad; rw [bM_none hbad, bE_none hbad]
         exact vle_tup ⟨vle1_agg ⟨.refl _, .refl _, cle_nils rfl, cle_nils rfl, trivial⟩, vle1_one (.refl _), trivial⟩)
      | (have hend := bF_end F n (129 - i) i s (by omega)
         rw [show 129 - i + 1 = 130 - i by omega, hbf] at hend
         rw [bM_some hend, bE_some hend]; exact VLE.of_eq (by simp [fzC]; rfl))
end Go.Proofs.Ytfbnhgefkdhiaaa
namespace Go.Proofs.Ytfbnhgefkdhiaaa
open Go Go.AV
open Nat (reduceEqDiff reduceAdd reduceLeDiff reduceLT reduceMul reduceSub)
open List (set_cons_zero set_cons_succ)
set_option maxRecDepth 100000 in
theorem fm_c (m : Mly) (os : List Int) (q : PP) (x : Nat) (hm : MOK m) (hq : IS m q) (hos : ∀ o, o ∈ m.ot.flatten → 0 ≤ o ∧ o < os.length) (hx : x < m.inp.toNat) : PURE Try.prog 44 [.agg [.int .i64 q.1, .int .i64 q.2], .one (.int .i64 (x : Int)), .one (.pat (.pair (.int .i64) (.pair (.int .i64) (.pair (.list (.list (.int .i64))) (.pair (.list (.list (.int .i64))) .unit)))) (m.inp, (m.st, (m.nx, (m.ot, ())))) 0), .one (.pat (.list (.int .i64)) os 0)] (.agg [.int .i64 (FM m os q x).1.1, .int .i64 (FM m os q x).1.2, .int .i64 (FM m os q x).2]) := by
  obtain ⟨⟨hq1, hq2⟩, hq3⟩ := id hq; have hmo := hm.ol; have hmi := hm.i2; have h1 := hm.rl q.1.toNat (by omega); have h2 := hm.ql q.1.toNat (by omega); have hox0 := hos _ (out_mem hm ⟨hq1, hq2⟩ (a := (x : Int)) ⟨by omega, by omega⟩); have hox : 0 ≤ (m.ot.getD q.1.toNat []).getD x 0 ∧ (m.ot.getD q.1.toNat []).getD x 0 < os.length := hox0
  refine pure_of_le Try.func44 rfl (by kernel_rfl) (Nat.le_of_ble_eq_true rfl) rfl fun C hP hN hB => ?_
  replace hN : C.N = 30 := hN
  simp only [argEnv, reduceAdd]
  refine awp_seq_k fun K1 hK1 => ?_
  refine awp_reg hP hN rfl ?_
  iterate 2 (refine rg_step rfl fun K0 hK0 => ?_; simp only [zE, op1, ev, lkp, avOf, acOf, opBox, cellsAV, opAlloc, reduceCtorEq, reduceEqDiff, reduceAdd, reduceLeDiff, reduceLT, reduceMul, reduceSub, Try.fl51, Try.st51, Try.st53, Try.td51, Try.td53]; (repeat refine And.intro (by first | omega | assumption | exact rfl) ?_); (first | refine hK0 _ ?_ | refine Or.inl (hK0 _ ?_)); clear hK0 K0; simp only [put, app, setAll, trOf, zE, zS, reduceAdd])
  refine rg_nil ?_
  refine hK1 _ ?_; clear hK1; refine awp_keep [0, 1, 2, 3, 4, 6] ?_; simp only [keepEnv, lkp, zE, reduceCtorEq, reduceEqDiff, argEnv, reduceAdd]
  refine awp_seq_k fun K2 hK2 => ?_
  refine awp_drw hP hN Try.mixed rfl ?_
  iterate 24 (refine rg_step rfl fun K0 hK0 => ?_; simp only [zE, op1, ev, lkp, avOf, acOf, opFieldAddr, opLoad, Nat.mul_one, readAC, isAggK, acs, Ty.dflt, zG, cellsAt, opIndexAddr, Ty.size, ne_eq, not_false_eq_true, Int.natCast_one, Int.mul_one, opBuild, fillAC, writeAC, cellsAV, opStore, datOf, reduceCtorEq, reduceEqDiff, reduceAdd, reduceLeDiff, reduceLT, reduceMul, reduceSub, Try.el22, Try.el33, Try.fl51, Try.st24, Try.st51, Try.st53, Try.td2, Try.td22, Try.td24, Try.td3, Try.td33, Try.td51, Try.td53]; (repeat refine And.intro (by first | omega | assumption | exact rfl) ?_); (first | refine hK0 _ ?_ | refine Or.inl (hK0 _ ?_)); clear hK0 K0; simp only [put, app, setAll, trOf, zE, zS, reduceAdd])
  refine rg_nil ?_
  refine ⟨by kernel_rfl, ?_⟩
  refine hK2 _ ?_; clear hK2; refine awp_keep [0, 1, 2, 3, 4, 6] ?_; simp only [keepEnv, lkp, zE, reduceCtorEq, reduceEqDiff, argEnv, reduceAdd]
  refine awp_ret ?_
  refine ⟨by first | exact .inl rfl | exact .inr rfl, _, rfl, ?_⟩; simp only [fzV, fz1, fzC, List.map_cons, List.map_nil, keepEnv, lkp, zE, reduceCtorEq, reduceEqDiff, argEnv, reduceAdd]
  refine VLE.of_eq ?_
  rfl
end Go.Proofs.Ytfbnhgefkdhiaaa
namespace Go.Proofs.Ytfbnhgefkdhiaaa
open Go Go.AV
open Nat (reduceEqDiff reduceAdd reduceLeDiff reduceLT reduceMul reduceSub)
open List (set_cons_zero set_cons_succ)
open Go.Shelf in
def Try.laysNm220_ren : Go.Shelf.Ren := ⟨fun | 20 => 57 | n => n, fun | 22 => 33 | 3 => 3 | 4 => 4 | 0 => 0 | n => n, fun | n => n⟩
theorem Try.laysNm220 : Go.Proofs.Lays2.n20 Try.prog Try.laysNm220_ren := {
  mixed := by kernel_rfl,
  f20 := Try.func57.trans (congrArg some (by kernel_rfl)),
  t0 := Try.underlying0,
  a0 := Try.isAgg0,
  z0 := Try.sizeOf0,
  v0 := Try.zeroValue0,
  t3 := Try.underlying3,
  a3 := Try.isAgg3,
  z3 := Try.sizeOf3,
  v3 := Try.zeroValue3,
  t4 := Try.underlying4,
  a4 := Try.isAgg4,
  z4 := Try.sizeOf4,
  v4 := Try.zeroValue4,
  t22 := Try.underlying33,
  a22 := Try.isAgg33,
  z22 := Try.sizeOf33,
  v22 := Try.zeroValue33,
  i3 := by kernel_rfl }
theorem compacts_c : COMPACTS Try.prog 57 := ⟨⟨Try.f57, Try.func57, by kernel_rfl, by kernel_rfl⟩, fun blk off cap zs w hH hb hz => Any.slices_Compact_int Try.laysNm220 blk off cap zs w hH hb hz⟩
end Go.Proofs.Ytfbnhgefkdhiaaa
namespace Go.Proofs.Ytfbnhgefkdhiaaa
open Go Go.AV
open Nat (reduceEqDiff reduceAdd reduceLeDiff reduceLT reduceMul reduceSub)
open List (set_cons_zero set_cons_succ)
open Go.Shelf in
def Try.lays189_ren : Go.Shelf.Ren := ⟨fun | 189 => 56 | 125 => 67 | 257 => 66 | 128 => 83 | 129 => 84 | 294 => 74 | 295 => 75 | 296 => 76 | 297 => 77 | 298 => 78 | 299 => 79 | 216 => 80 | 300 => 81 | 301 => 82 | 328 => 88 | 329 => 89 | 330 => 90 | 331 => 91 | 332 => 92 | 215 => 93 | 343 => 95 | n => n, fun | 28 => 33 | 3 => 3 | 46 => 91 | 0 => 0 | 51 => 114 | 53 => 116 | 4 => 4 | 183 => 106 | 182 => 105 | 131 => 111 | 5 => 5 | 9 => 9 | 218 => 119 | 222 => 123 | 228 => 129 | 229 => 94 | n => n, fun | n => n⟩
theorem Try.lays189 : Go.Proofs.Lays.n189 Try.prog Try.lays189_ren := {
  mixed := by kernel_rfl,
  f125 := Try.func67.trans (congrArg some (by kernel_rfl)),
  f128 := Try.func83.trans (congrArg some (by kernel_rfl)),
  f129 := Try.func84.trans (congrArg some (by kernel_rfl)),
  f189 := Try.func56.trans (congrArg some (by kernel_rfl)),
  f215 := Try.func93.trans (congrArg some (by kernel_rfl)),
  f216 := Try.func80.trans (congrArg some (by kernel_rfl)),
  f257 := Try.func66.trans (congrArg some (by kernel_rfl)),
  f294 := Try.func74.trans (congrArg some (by kernel_rfl)),
  f295 := Try.func75.trans (congrArg some (by kernel_rfl)),
  f296 := Try.func76.trans (congrArg some (by kernel_rfl)),
  f297 := Try.func77.trans (congrArg some (by kernel_rfl)),
  f298 := Try.func78.trans (congrArg some (by kernel_rfl)),
  f299 := Try.func79.trans (congrArg some (by kernel_rfl)),
  f300 := Try.func81.trans (congrArg some (by kernel_rfl)),
  f301 := Try.func82.trans (congrArg some (by kernel_rfl)),
  f328 := Try.func88.trans (congrArg some (by kernel_rfl)),
  f329 := Try.func89.trans (congrArg some (by kernel_rfl)),
  f330 := Try.func90.trans (congrArg some (by kernel_rfl)),
  f331 := Try.func91.trans (congrArg some (by kernel_rfl)),
  f332 := Try.func92.trans (congrArg some (by kernel_rfl)),
  f343 := Try.func95.trans (congrArg some (by kernel_rfl)),
  t0 := Try.underlying0,
  a0 := Try.isAgg0,
  z0 := Try.sizeOf0,
  v0 := Try.zeroValue0,
  t3 := Try.underlying3,
  a3 := Try.isAgg3,
  z3 := Try.sizeOf3,
  v3 := Try.zeroValue3,
  t4 := Try.underlying4,
  a4 := Try.isAgg4,
  z4 := Try.sizeOf4,
  v4 := Try.zeroValue4,
  t5 := Try.underlying5,
  a5 := Try.isAgg5,
  z5 := Try.sizeOf5,
  v5 := Try.zeroValue5,
  t9 := Try.underlying9,
  a9 := Try.isAgg9,
  z9 := Try.sizeOf9,
  v9 := Try.zeroValue9,
  t28 := Try.underlying33,
  a28 := Try.isAgg33,
  z28 := Try.sizeOf33,
  v28 := Try.zeroValue33,
  t46 := Try.underlying91,
  a46 := Try.isAgg91,
  z46 := Try.sizeOf91,
  v46 := Try.zeroValue91,
  t51 := Try.underlying114,
  a51 := Try.isAgg114,
  z51 := Try.sizeOf114,
  v51 := Try.zeroValue114,
  t53 := Try.underlying116,
  a53 := Try.isAgg116,
  z53 := Try.sizeOf116,
  v53 := Try.zeroValue116,
  t131 := Try.underlying111,
  a131 := Try.isAgg111,
  z131 := Try.sizeOf111,
  v131 := Try.zeroValue111,
  t182 := Try.underlying105,
  a182 := Try.isAgg105,
  z182 := Try.sizeOf105,
  v182 := Try.zeroValue105,
  t183 := Try.underlying106,
  a183 := Try.isAgg106,
  z183 := Try.sizeOf106,
  v183 := Try.zeroValue106,
  t218 := Try.underlying119,
  a218 := Try.isAgg119,
  z218 := Try.sizeOf119,
  v218 := Try.zeroValue119,
  t222 := Try.underlying123,
  a222 := Try.isAgg123,
  z222 := Try.sizeOf123,
  v222 := Try.zeroValue123,
  t228 := Try.underlying129,
  a228 := Try.isAgg129,
  z228 := Try.sizeOf129,
  v228 := Try.zeroValue129,
  t229 := Try.underlying94,
  a229 := Try.isAgg94,
  z229 := Try.sizeOf94,
  v229 := Try.zeroValue94 }
theorem sorts_c : SORTS Try.prog 56 := ⟨⟨Try.f56, Try.func56, by kernel_rfl, by kernel_rfl⟩, fun blk off cap zs w hH hb hz => Any.slices_Sort_int Try.lays189 blk off cap zs w hH hb hz⟩
end Go.Proofs.Ytfbnhgefkdhiaaa
namespace Go.Proofs.Ytfbnhgefkdhiaaa
open Go Go.AV
open Nat (reduceEqDiff reduceAdd reduceLeDiff reduceLT reduceMul reduceSub)
open List (set_cons_zero set_cons_succ)
set_option maxRecDepth 100000 in
theorem valid_c (m : Mly) : PURE Try.prog 39 [m.av] (.one (.int .i64 (validE m))) := by
  refine pure_of_le Try.func39 rfl (by kernel_rfl) (Nat.le_of_ble_eq_true rfl) rfl fun C hP hN hB => ?_
  replace hN : C.N = 104 := hN
  simp only [argEnv, reduceAdd]
  refine awp_seq_k fun K1 hK1 => ?_
  refine awp_reg hP hN rfl ?_
  iterate 2 (refine rg_step rfl fun K0 hK0 => ?_; simp only [zE, op1, ev, lkp, avOf, acOf, opBox, cellsAV, reduceCtorEq, reduceEqDiff, reduceAdd, reduceLeDiff, reduceLT, reduceMul, reduceSub, Try.st24, Try.td24, Try.td27, Mly.av]; (repeat refine And.intro (by first | omega | assumption | exact rfl) ?_); (first | refine hK0 _ ?_ | refine Or.inl (hK0 _ ?_)); clear hK0 K0; simp only [put, app, setAll, trOf, zE, zS, reduceAdd])
  refine rg_nil ?_
  refine hK1 _ ?_; clear hK1; refine awp_keep [0, 1, 2] ?_; simp only [keepEnv, lkp, zE, reduceCtorEq, reduceEqDiff, argEnv, reduceAdd]
  refine awp_seq_k fun K2 hK2 => ?_
  refine awp_reg hP hN rfl ?_
  iterate 4 (refine rg_step rfl fun K0 hK0 => ?_; simp only [zE, op1, ev, lkp, avOf, acOf, opFieldAddr, opLoad, Nat.mul_one, readAC, isAggK, acs, Ty.dflt, zG, cellsAt, opCallAny, opMM, opLen, lenAC, lenOk, fpAC, Nat.div_one, opAppend, srcOf, Ty.size, datOf, dite_true, reduceCtorEq, reduceEqDiff, reduceAdd, reduceLeDiff, reduceLT, reduceMul, reduceSub, Try.el22, Try.st24, Try.td2, Try.td22, Try.td24, Try.td3, Mly.av]; (repeat refine And.intro (by first | omega | assumption | exact rfl) ?_); (first | refine hK0 _ ?_ | refine Or.inl (hK0 _ ?_)); clear hK0 K0; simp only [put, app, setAll, trOf, zE, zS, reduceAdd])
  refine rg_nil ?_
  refine hK2 _ ?_; clear hK2; refine awp_keep [0, 1, 2, 3] ?_; simp only [keepEnv, lkp, zE, reduceCtorEq, reduceEqDiff, argEnv, reduceAdd]
  refine awp_seq_k fun K3 hK3 => ?_
  refine awp_block ?_
  refine awp_seq_k fun K4 hK4 => ?_
  refine awp_reg hP hN rfl ?_
  iterate 3 (refine rg_step rfl fun K0 hK0 => ?_; simp only [zE, op1, ev, lkp, avOf, acOf, opFieldAddr, opLoad, Nat.mul_one, readAC, isAggK, acs, Ty.dflt, zG, cellsAt, opBin, arith, inK_i64, eqACs, eqAC, reduceCtorEq, reduceEqDiff, reduceAdd, reduceLeDiff, reduceLT, reduceMul, reduceSub, Try.st24, Try.td24, Try.td3, Try.td4, Mly.av]; (repeat refine And.intro (by first | omega | assumption | exact rfl) ?_); (first | refine hK0 _ ?_ | refine Or.inl (hK0 _ ?_)); clear hK0 K0; simp only [put, app, setAll, trOf, zE, zS, reduceAdd])
  (refine rg_step rfl fun K0 hK0 => ?_; simp only [zE, op1, ev, lkp, avOf, acOf, ev, reduceCtorEq, reduceEqDiff, reduceAdd, reduceLeDiff, reduceLT, reduceMul, reduceSub, Try.td4, Mly.av]; (repeat refine And.intro (by first | omega | assumption | exact rfl) ?_); (first | refine hK0 _ ?_ | refine Or.inl (hK0 _ ?_)); clear hK0 K0; simp only [put, app, setAll, trOf, zE, zS, reduceAdd])
  refine' rg_join_n (want := false) 3 rfl (m := 15) (by simp only [keepEnv, lkp, zE, reduceCtorEq, reduceEqDiff, argEnv, reduceAdd]; exact rfl) (by kernel_rfl) rfl rfl rfl rfl rfl (fun hg5 => ?a5) ?b5 ?c5
  case a5 =>
    have hq5 := hg5; (try simp only [zB, reduceCtorEq] at hg5); simp only [List.take_succ_cons, List.take_zero, List.cons_append, List.nil_append]
    (refine rg_do rfl fun K0 hK0 => ?_; simp only [zE, op1, ev, lkp, avOf, acOf, opFieldAddr, reduceCtorEq, reduceEqDiff, reduceAdd, reduceLeDiff, reduceLT, reduceMul, reduceSub, Try.st24, Try.td24, Mly.av]; (repeat refine And.intro (by first | omega | assumption | exact rfl) ?_); (first | refine hK0 _ ?_ | refine Or.inl (hK0 _ ?_)); clear hK0 K0; simp only [put, app, setAll, trOf, zE, zS, reduceAdd])
    (refine rg_do rfl fun K0 hK0 => ?_; simp only [zE, op1, ev, lkp, avOf, acOf, opLoad, Nat.mul_one, readAC, isAggK, acs, Ty.dflt, zG, cellsAt, reduceCtorEq, reduceEqDiff, reduceAdd, reduceLeDiff, reduceLT, reduceMul, reduceSub, Try.td3, Mly.av]; (repeat refine And.intro (by first | omega | assumption | exact rfl) ?_); (first | refine hK0 _ ?_ | refine Or.inl (hK0 _ ?_)); clear hK0 K0; simp only [put, app, setAll, trOf, zE, zS, reduceAdd])
    (refine rg_do rfl fun K0 hK0 => ?_; simp only [zE, op1, ev, lkp, avOf, acOf, opBin, arith, inK_i64, eqACs, eqAC, reduceCtorEq, reduceEqDiff, reduceAdd, reduceLeDiff, reduceLT, reduceMul, reduceSub, Try.td3, Try.td4, Mly.av]; (repeat refine And.intro (by first | omega | assumption | exact rfl) ?_); (first | refine hK0 _ ?_ | refine Or.inl (hK0 _ ?_)); clear hK0 K0; simp only [put, app, setAll, trOf, zE, zS, reduceAdd])
    (refine rg_step rfl fun K0 hK0 => ?_; simp only [zE, op1, ev, lkp, avOf, acOf, opPick, reduceCtorEq, reduceEqDiff, reduceAdd, reduceLeDiff, reduceLT, reduceMul, reduceSub, Try.td4, Mly.av]; (repeat refine And.intro (by first | omega | assumption | exact rfl) ?_); (first | refine hK0 _ ?_ | refine Or.inl (hK0 _ ?_)); clear hK0 K0; simp only [put, app, setAll, trOf, zE, zS, reduceAdd])
    refine rg_nil ?_
    refine ⟨by simp only [keepEnv, lkp, zE, reduceCtorEq, reduceEqDiff, argEnv, reduceAdd]; exact rfl, rfl, ?_, rfl⟩; (repeat refine keep_cons rfl ?_); exact keep_m (by exact rfl) hq5
  case b5 => exact tle_of (by first | rfl | (simp [tleB]; done) | decide)
  simp only [join_or, join_and]
  (refine rg_step rfl fun K0 hK0 => ?_; simp only [zE, op1, ev, lkp, avOf, acOf, ev, reduceCtorEq, reduceEqDiff, reduceAdd, reduceLeDiff, reduceLT, reduceMul, reduceSub, Try.td4, Mly.av]; (repeat refine And.intro (by first | omega | assumption | exact rfl) ?_); (first | refine hK0 _ ?_ | refine Or.inl (hK0 _ ?_)); clear hK0 K0; simp only [put, app, setAll, trOf, zE, zS, reduceAdd])
  refine rg_nil ?_
  refine hK4 _ ?_; clear hK4; refine awp_keep [0, 1, 2, 3, 11] ?_; simp only [keepEnv, lkp, zE, reduceCtorEq, reduceEqDiff, argEnv, reduceAdd]
  refine awp_cond (by simp only [ev, keepEnv, lkp, zE, reduceCtorEq, reduceEqDiff, argEnv, reduceAdd]; exact rfl) (fun hc6 => ?_) (fun hc6 => ?_)
  · (try simp only [zB, reduceCtorEq] at hc6)
    refine awp_seq_k fun K7 hK7 => ?_
    refine awp_reg hP hN rfl ?_
    (refine rg_step rfl fun K0 hK0 => ?_; simp only [zE, op1, ev, lkp, avOf, acOf, ev, reduceCtorEq, reduceEqDiff, reduceAdd, reduceLeDiff, reduceLT, reduceMul, reduceSub, Try.td27, Mly.av]; (repeat refine And.intro (by first | omega | assumption | exact rfl) ?_); (first | refine hK0 _ ?_ | refine Or.inl (hK0 _ ?_)); clear hK0 K0; simp only [put, app, setAll, trOf, zE, zS, reduceAdd])
    refine rg_nil ?_
    refine hK7 _ ?_; clear hK7; refine awp_keep [0, 1, 2, 3, 11] ?_; simp only [keepEnv, lkp, zE, reduceCtorEq, reduceEqDiff, argEnv, reduceAdd]
    refine awp_ret ?_
    refine ⟨by first | exact .inl rfl | exact .inr rfl, _, rfl, ?_⟩; simp only [fzV, fz1, fzC, List.map_cons, List.map_nil, keepEnv, lkp, zE, reduceCtorEq, reduceEqDiff, argEnv, reduceAdd, Mly.av]
    refine VLE.of_eq ?_
    refine congrArg (fun n => AV.one (AC.int IntKind.i64 n)) ?_
    symm
    unfold validE
    first
    | (rw [if_pos (by omega)]; done)
    | (rw [if_neg (by omega), if_pos (by omega)]; done)
    | (rw [if_neg (by omega), if_neg (by omega), if_pos (by omega)]; done)
    | (rw [if_neg (by omega), if_neg (by omega), if_neg (by omega), if_pos (by omega)]; done)
    | (rw [if_neg (by omega), if_neg (by omega), if_neg (by omega), if_neg (by omega), if_pos (by omega)]; done)
    | (rw [if_neg (by omega), if_neg (by omega), if_neg (by omega), if_neg (by omega), if_neg (by omega)]
       first
       | exact (firstE_at hrows (by omega) (by rw [rowE_bad2 hc32.1 hc32.2 (j := j) (by omega) (by unfold cellBad; omega)]; decide)).trans (rowE_bad2 hc32.1 hc32.2 (by omega) (by unfold cellBad; omega))
       | exact (firstE_at hrows (by omega) (by rw [rowE_bad1 hc32]; decide)).trans (rowE_bad1 hc32)
       | exact firstE_zero fun i hi => hrows i (by omega))
  · (try simp only [zB, reduceCtorEq] at hc6)
    refine awp_seq_k fun K8 hK8 => ?_
    refine awp_reg hP hN rfl ?_
    iterate 3 (refine rg_step rfl fun K0 hK0 => ?_; simp only [zE, op1, ev, lkp, avOf, acOf, opBin, arith, inK_i64, eqACs, eqAC, reduceCtorEq, reduceEqDiff, reduceAdd, reduceLeDiff, reduceLT, reduceMul, reduceSub, Try.td3, Try.td4, Mly.av]; (repeat refine And.intro (by first | omega | assumption | exact rfl) ?_); (first | refine hK0 _ ?_ | refine Or.inl (hK0 _ ?_)); clear hK0 K0; simp only [put, app, setAll, trOf, zE, zS, reduceAdd])
    refine rg_nil ?_
    refine hK8 _ ?_; clear hK8; refine awp_keep [0, 1, 2, 3, 11, 20] ?_; simp only [keepEnv, lkp, zE, reduceCtorEq, reduceEqDiff, argEnv, reduceAdd]
    refine awp_cond (by simp only [ev, keepEnv, lkp, zE, reduceCtorEq, reduceEqDiff, argEnv, reduceAdd]; exact rfl) (fun hc9 => ?_) (fun hc9 => ?_)
    · (try simp only [zB, reduceCtorEq] at hc9)
      refine awp_seq_k fun K10 hK10 => ?_
      refine awp_reg hP hN rfl ?_
      (refine rg_step rfl fun K0 hK0 => ?_; simp only [zE, op1, ev, lkp, avOf, acOf, ev, reduceCtorEq, reduceEqDiff, reduceAdd, reduceLeDiff, reduceLT, reduceMul, reduceSub, Try.td27, Mly.av]; (repeat refine And.intro (by first | omega | assumption | exact rfl) ?_); (first | refine hK0 _ ?_ | refine Or.inl (hK0 _ ?_)); clear hK0 K0; simp only [put, app, setAll, trOf, zE, zS, reduceAdd])
      refine rg_nil ?_
      refine hK10 _ ?_; clear hK10; refine awp_keep [0, 1, 2, 3, 11, 20] ?_; simp only [keepEnv, lkp, zE, reduceCtorEq, reduceEqDiff, argEnv, reduceAdd]
      refine awp_ret ?_
      refine ⟨by first | exact .inl rfl | exact .inr rfl, _, rfl, ?_⟩; simp only [fzV, fz1, fzC, List.map_cons, List.map_nil, keepEnv, lkp, zE, reduceCtorEq, reduceEqDiff, argEnv, reduceAdd, Mly.av]
      refine VLE.of_eq ?_
      refine congrArg (fun n => AV.one (AC.int IntKind.i64 n)) ?_
      symm
      unfold validE
      first
      | (rw [if_pos (by omega)]; done)
      | (rw [if_neg (by omega), if_pos (by omega)]; done)
      | (rw [if_neg (by omega), if_neg (by omega), if_pos (by omega)]; done)
      | (rw [if_neg (by omega), if_neg (by omega), if_neg (by omega), if_pos (by omega)]; done)
      | (rw [if_neg (by omega), if_neg (by omega), if_neg (by omega), if_neg (by omega), if_pos (by omega)]; done)
      | (rw [if_neg (by omega), if_neg (by omega), if_neg (by omega), if_neg (by omega), if_neg (by omega)]
         first
         | exact (firstE_at hrows (by omega) (by rw [rowE_bad2 hc32.1 hc32.2 (j := j) (by omega) (by unfold cellBad; omega)]; decide)).trans (rowE_bad2 hc32.1 hc32.2 (by omega) (by unfold cellBad; omega))
         | exact (firstE_at hrows (by omega) (by rw [rowE_bad1 hc32]; decide)).trans (rowE_bad1 hc32)
         | exact firstE_zero fun i hi => hrows i (by omega))
    · (try simp only [zB, reduceCtorEq] at hc9)
      refine awp_seq_k fun K11 hK11 => ?_
      refine awp_reg hP hN rfl ?_
      iterate 3 (refine rg_step rfl fun K0 hK0 => ?_; simp only [zE, op1, ev, lkp, avOf, acOf, opBin, arith, inK_i64, eqACs, eqAC, reduceCtorEq, reduceEqDiff, reduceAdd, reduceLeDiff, reduceLT, reduceMul, reduceSub, Try.td3, Try.td4, Mly.av]; (repeat refine And.intro (by first | omega | assumption | exact rfl) ?_); (first | refine hK0 _ ?_ | refine Or.inl (hK0 _ ?_)); clear hK0 K0; simp only [put, app, setAll, trOf, zE, zS, reduceAdd])
      refine rg_nil ?_
      refine hK11 _ ?_; clear hK11; refine awp_keep [0, 1, 2, 3, 11, 20, 23] ?_; simp only [keepEnv, lkp, zE, reduceCtorEq, reduceEqDiff, argEnv, reduceAdd]
      refine awp_cond (by simp only [ev, keepEnv, lkp, zE, reduceCtorEq, reduceEqDiff, argEnv, reduceAdd]; exact rfl) (fun hc12 => ?_) (fun hc12 => ?_)
      · (try simp only [zB, reduceCtorEq] at hc12)
        refine awp_seq_k fun K13 hK13 => ?_
        refine awp_reg hP hN rfl ?_
        (refine rg_step rfl fun K0 hK0 => ?_; simp only [zE, op1, ev, lkp, avOf, acOf, ev, reduceCtorEq, reduceEqDiff, reduceAdd, reduceLeDiff, reduceLT, reduceMul, reduceSub, Try.td27, Mly.av]; (repeat refine And.intro (by first | omega | assumption | exact rfl) ?_); (first | refine hK0 _ ?_ | refine Or.inl (hK0 _ ?_)); clear hK0 K0; simp only [put, app, setAll, trOf, zE, zS, reduceAdd])
        refine rg_nil ?_
        refine hK13 _ ?_; clear hK13; refine awp_keep [0, 1, 2, 3, 11, 20, 23] ?_; simp only [keepEnv, lkp, zE, reduceCtorEq, reduceEqDiff, argEnv, reduceAdd]
        refine awp_ret ?_
        refine ⟨by first | exact .inl rfl | exact .inr rfl, _, rfl, ?_⟩; simp only [fzV, fz1, fzC, List.map_cons, List.map_nil, keepEnv, lkp, zE, reduceCtorEq, reduceEqDiff, argEnv, reduceAdd, Mly.av]
        refine VLE.of_eq ?_
        refine congrArg (fun n => AV.one (AC.int IntKind.i64 n)) ?_
        symm
        unfold validE
        first
        | (rw [if_pos (by omega)]; done)
        | (rw [if_neg (by omega), if_pos (by omega)]; done)
        | (rw [if_neg (by omega), if_neg (by omega), if_pos (by omega)]; done)
        | (rw [if_neg (by omega), if_neg (by omega), if_neg (by omega), if_pos (by omega)]; done)
        | (rw [if_neg (by omega), if_neg (by omega), if_neg (by omega), if_neg (by omega), if_pos (by omega)]; done)
        | (rw [if_neg (by omega), if_neg (by omega), if_neg (by omega), if_neg (by omega), if_neg (by omega)]
           first
           | exact (firstE_at hrows (by omega) (by rw [rowE_bad2 hc32.1 hc32.2 (j := j) (by omega) (by unfold cellBad; omega)]; decide)).trans (rowE_bad2 hc32.1 hc32.2 (by omega) (by unfold cellBad; omega))
           | exact (firstE_at hrows (by omega) (by rw [rowE_bad1 hc32]; decide)).trans (rowE_bad1 hc32)
           | exact firstE_zero fun i hi => hrows i (by omega))
      · (try simp only [zB, reduceCtorEq] at hc12)
        refine awp_seq_k fun K14 hK14 => ?_
        refine awp_reg hP hN rfl ?_
        iterate 3 (refine rg_step rfl fun K0 hK0 => ?_; simp only [zE, op1, ev, lkp, avOf, acOf, opFieldAddr, opLoad, Nat.mul_one, readAC, isAggK, acs, Ty.dflt, zG, cellsAt, opBin, arith, inK_i64, eqACs, eqAC, reduceCtorEq, reduceEqDiff, reduceAdd, reduceLeDiff, reduceLT, reduceMul, reduceSub, Try.st24, Try.td1, Try.td24, Try.td3, Try.td4, Mly.av]; (repeat refine And.intro (by first | omega | assumption | exact rfl) ?_); (first | refine hK0 _ ?_ | refine Or.inl (hK0 _ ?_)); clear hK0 K0; simp only [put, app, setAll, trOf, zE, zS, reduceAdd])
        (refine rg_step rfl fun K0 hK0 => ?_; simp only [zE, op1, ev, lkp, avOf, acOf, ev, reduceCtorEq, reduceEqDiff, reduceAdd, reduceLeDiff, reduceLT, reduceMul, reduceSub, Try.td4, Mly.av]; (repeat refine And.intro (by first | omega | assumption | exact rfl) ?_); (first | refine hK0 _ ?_ | refine Or.inl (hK0 _ ?_)); clear hK0 K0; simp only [put, app, setAll, trOf, zE, zS, reduceAdd])
        refine' rg_join_n (want := false) 4 rfl (m := 30) (by simp only [keepEnv, lkp, zE, reduceCtorEq, reduceEqDiff, argEnv, reduceAdd]; exact rfl) (by kernel_rfl) rfl rfl rfl rfl rfl (fun hg15 => ?a15) ?b15 ?c15
        case a15 =>
          have hq15 := hg15; (try simp only [zB, reduceCtorEq] at hg15); simp only [List.take_succ_cons, List.take_zero, List.cons_append, List.nil_append]
          (refine rg_do rfl fun K0 hK0 => ?_; simp only [zE, op1, ev, lkp, avOf, acOf, opFieldAddr, reduceCtorEq, reduceEqDiff, reduceAdd, reduceLeDiff, reduceLT, reduceMul, reduceSub, Try.st24, Try.td1, Try.td24, Mly.av]; (repeat refine And.intro (by first | omega | assumption | exact rfl) ?_); (first | refine hK0 _ ?_ | refine Or.inl (hK0 _ ?_)); clear hK0 K0; simp only [put, app, setAll, trOf, zE, zS, reduceAdd])
          (refine rg_do rfl fun K0 hK0 => ?_; simp only [zE, op1, ev, lkp, avOf, acOf, opLoad, Nat.mul_one, readAC, isAggK, acs, Ty.dflt, zG, cellsAt, reduceCtorEq, reduceEqDiff, reduceAdd, reduceLeDiff, reduceLT, reduceMul, reduceSub, Try.td3, Mly.av]; (repeat refine And.intro (by first | omega | assumption | exact rfl) ?_); (first | refine hK0 _ ?_ | refine Or.inl (hK0 _ ?_)); clear hK0 K0; simp only [put, app, setAll, trOf, zE, zS, reduceAdd])
          (refine rg_do rfl fun K0 hK0 => ?_; simp only [zE, op1, ev, lkp, avOf, acOf, ev, reduceCtorEq, reduceEqDiff, reduceAdd, reduceLeDiff, reduceLT, reduceMul, reduceSub, Try.td3, Mly.av]; (repeat refine And.intro (by first | omega | assumption | exact rfl) ?_); (first | refine hK0 _ ?_ | refine Or.inl (hK0 _ ?_)); clear hK0 K0; simp only [put, app, setAll, trOf, zE, zS, reduceAdd])
          (refine rg_do rfl fun K0 hK0 => ?_; simp only [zE, op1, ev, lkp, avOf, acOf, opBin, arith, inK_i64, eqACs, eqAC, reduceCtorEq, reduceEqDiff, reduceAdd, reduceLeDiff, reduceLT, reduceMul, reduceSub, Try.td3, Try.td4, Mly.av]; (repeat refine And.intro (by first | omega | assumption | exact rfl) ?_); (first | refine hK0 _ ?_ | refine Or.inl (hK0 _ ?_)); clear hK0 K0; simp only [put, app, setAll, trOf, zE, zS, reduceAdd])
          (refine rg_step rfl fun K0 hK0 => ?_; simp only [zE, op1, ev, lkp, avOf, acOf, opPick, reduceCtorEq, reduceEqDiff, reduceAdd, reduceLeDiff, reduceLT, reduceMul, reduceSub, Try.td4, Mly.av]; (repeat refine And.intro (by first | omega | assumption | exact rfl) ?_); (first | refine hK0 _ ?_ | refine Or.inl (hK0 _ ?_)); clear hK0 K0; simp only [put, app, setAll, trOf, zE, zS, reduceAdd])
          refine rg_nil ?_
          refine ⟨by simp only [keepEnv, lkp, zE, reduceCtorEq, reduceEqDiff, argEnv, reduceAdd]; exact rfl, rfl, ?_, rfl⟩; (repeat refine keep_cons rfl ?_); exact keep_m (by exact rfl) hq15
        case b15 => exact tle_of (by first | rfl | (simp [tleB]; done) | decide)
        simp only [join_or, join_and]
        (refine rg_step rfl fun K0 hK0 => ?_; simp only [zE, op1, ev, lkp, avOf, acOf, ev, reduceCtorEq, reduceEqDiff, reduceAdd, reduceLeDiff, reduceLT, reduceMul, reduceSub, Try.td4, Mly.av]; (repeat refine And.intro (by first | omega | assumption | exact rfl) ?_); (first | refine hK0 _ ?_ | refine Or.inl (hK0 _ ?_)); clear hK0 K0; simp only [put, app, setAll, trOf, zE, zS, reduceAdd])
        refine rg_nil ?_
        refine hK14 _ ?_; clear hK14; refine awp_keep [0, 1, 2, 3, 11, 20, 23, 26] ?_; simp only [keepEnv, lkp, zE, reduceCtorEq, reduceEqDiff, argEnv, reduceAdd]
        refine awp_cond (by simp only [ev, keepEnv, lkp, zE, reduceCtorEq, reduceEqDiff, argEnv, reduceAdd]; exact rfl) (fun hc16 => ?_) (fun hc16 => ?_)
        · (try simp only [zB, reduceCtorEq] at hc16)
          refine awp_seq_k fun K17 hK17 => ?_
          refine awp_reg hP hN rfl ?_
          (refine rg_step rfl fun K0 hK0 => ?_; simp only [zE, op1, ev, lkp, avOf, acOf, ev, reduceCtorEq, reduceEqDiff, reduceAdd, reduceLeDiff, reduceLT, reduceMul, reduceSub, Try.td27, Mly.av]; (repeat refine And.intro (by first | omega | assumption | exact rfl) ?_); (first | refine hK0 _ ?_ | refine Or.inl (hK0 _ ?_)); clear hK0 K0; simp only [put, app, setAll, trOf, zE, zS, reduceAdd])
          refine rg_nil ?_
          refine hK17 _ ?_; clear hK17; refine awp_keep [0, 1, 2, 3, 11, 20, 23, 26] ?_; simp only [keepEnv, lkp, zE, reduceCtorEq, reduceEqDiff, argEnv, reduceAdd]
          refine awp_ret ?_
          refine ⟨by first | exact .inl rfl | exact .inr rfl, _, rfl, ?_⟩; simp only [fzV, fz1, fzC, List.map_cons, List.map_nil, keepEnv, lkp, zE, reduceCtorEq, reduceEqDiff, argEnv, reduceAdd, Mly.av]
          refine VLE.of_eq ?_
          refine congrArg (fun n => AV.one (AC.int IntKind.i64 n)) ?_
          symm
          unfold validE
          first
          | (rw [if_pos (by omega)]; done)
          | (rw [if_neg (by omega), if_pos (by omega)]; done)
          | (rw [if_neg (by omega), if_neg (by omega), if_pos (by omega)]; done)
          | (rw [if_neg (by omega), if_neg (by omega), if_neg (by omega), if_pos (by omega)]; done)
          | (rw [if_neg (by omega), if_neg (by omega), if_neg (by omega), if_neg (by omega), if_pos (by omega)]; done)
          | (rw [if_neg (by omega), if_neg (by omega), if_neg (by omega), if_neg (by omega), if_neg (by omega)]
             first
             | exact (firstE_at hrows (by omega) (by rw [rowE_bad2 hc32.1 hc32.2 (j := j) (by omega) (by unfold cellBad; omega)]; decide)).trans (rowE_bad2 hc32.1 hc32.2 (by omega) (by unfold cellBad; omega))
             | exact (firstE_at hrows (by omega) (by rw [rowE_bad1 hc32]; decide)).trans (rowE_bad1 hc32)
             | exact firstE_zero fun i hi => hrows i (by omega))
        · (try simp only [zB, reduceCtorEq] at hc16)
          refine awp_seq_k fun K18 hK18 => ?_
          refine awp_reg hP hN rfl ?_
          iterate 6 (refine rg_step rfl fun K0 hK0 => ?_; simp only [zE, op1, ev, lkp, avOf, acOf, opFieldAddr, opLoad, Nat.mul_one, readAC, isAggK, acs, Ty.dflt, zG, cellsAt, opCallAny, opMM, opLen, lenAC, lenOk, fpAC, Nat.div_one, opAppend, srcOf, Ty.size, datOf, dite_true, opBin, arith, inK_i64, eqACs, eqAC, reduceCtorEq, reduceEqDiff, reduceAdd, reduceLeDiff, reduceLT, reduceMul, reduceSub, Try.el22, Try.st24, Try.td22, Try.td24, Try.td3, Try.td4, Mly.av]; (repeat refine And.intro (by first | omega | assumption | exact rfl) ?_); (first | refine hK0 _ ?_ | refine Or.inl (hK0 _ ?_)); clear hK0 K0; simp only [put, app, setAll, trOf, zE, zS, reduceAdd])
          refine rg_nil ?_
          refine hK18 _ ?_; clear hK18; refine awp_keep [0, 1, 2, 3, 11, 20, 23, 26, 36] ?_; simp only [keepEnv, lkp, zE, reduceCtorEq, reduceEqDiff, argEnv, reduceAdd]
          refine awp_cond (by simp only [ev, keepEnv, lkp, zE, reduceCtorEq, reduceEqDiff, argEnv, reduceAdd]; exact rfl) (fun hc19 => ?_) (fun hc19 => ?_)
          · (try simp only [zB, reduceCtorEq] at hc19)
            refine awp_seq_k fun K20 hK20 => ?_
            refine awp_reg hP hN rfl ?_
            (refine rg_step rfl fun K0 hK0 => ?_; simp only [zE, op1, ev, lkp, avOf, acOf, ev, reduceCtorEq, reduceEqDiff, reduceAdd, reduceLeDiff, reduceLT, reduceMul, reduceSub, Try.td27, Mly.av]; (repeat refine And.intro (by first | omega | assumption | exact rfl) ?_); (first | refine hK0 _ ?_ | refine Or.inl (hK0 _ ?_)); clear hK0 K0; simp only [put, app, setAll, trOf, zE, zS, reduceAdd])
            refine rg_nil ?_
            refine hK20 _ ?_; clear hK20; refine awp_keep [0, 1, 2, 3, 11, 20, 23, 26, 36] ?_; simp only [keepEnv, lkp, zE, reduceCtorEq, reduceEqDiff, argEnv, reduceAdd]
            refine awp_ret ?_
            refine ⟨by first | exact .inl rfl | exact .inr rfl, _, rfl, ?_⟩; simp only [fzV, fz1, fzC, List.map_cons, List.map_nil, keepEnv, lkp, zE, reduceCtorEq, reduceEqDiff, argEnv, reduceAdd, Mly.av]
            refine VLE.of_eq ?_
            refine congrArg (fun n => AV.one (AC.int IntKind.i64 n)) ?_
            symm
            unfold validE
            first
            | (rw [if_pos (by omega)]; done)
            | (rw [if_neg (by omega), if_pos (by omega)]; done)
            | (rw [if_neg (by omega), if_neg (by omega), if_pos (by omega)]; done)
            | (rw [if_neg (by omega), if_neg (by omega), if_neg (by omega), if_pos (by omega)]; done)
            | (rw [if_neg (by omega), if_neg (by omega), if_neg (by omega), if_neg (by omega), if_pos (by omega)]; done)
            | (rw [if_neg (by omega), if_neg (by omega), if_neg (by omega), if_neg (by omega), if_neg (by omega)]
               first
               | exact (firstE_at hrows (by omega) (by rw [rowE_bad2 hc32.1 hc32.2 (j := j) (by omega) (by unfold cellBad; omega)]; decide)).trans (rowE_bad2 hc32.1 hc32.2 (by omega) (by unfold cellBad; omega))
               | exact (firstE_at hrows (by omega) (by rw [rowE_bad1 hc32]; decide)).trans (rowE_bad1 hc32)
               | exact firstE_zero fun i hi => hrows i (by omega))
          · (try simp only [zB, reduceCtorEq] at hc19)
            refine awp_skip ?_
            refine hK3 _ ?_; clear hK3; refine awp_keep [0, 1, 2, 3, 11, 20, 23, 26, 36] ?_; simp only [keepEnv, lkp, zE, reduceCtorEq, reduceEqDiff, argEnv, reduceAdd]
            refine awp_seq_k fun K21 hK21 => ?_
            refine awp_seq_k fun K22 hK22 => ?_
            refine awp_reg hP hN rfl ?_
            iterate 2 (refine rg_step rfl fun K0 hK0 => ?_; simp only [zE, op1, ev, lkp, avOf, acOf, ev, reduceCtorEq, reduceEqDiff, reduceAdd, reduceLeDiff, reduceLT, reduceMul, reduceSub, Try.td3, Mly.av]; (repeat refine And.intro (by first | omega | assumption | exact rfl) ?_); (first | refine hK0 _ ?_ | refine Or.inl (hK0 _ ?_)); clear hK0 K0; simp only [put, app, setAll, trOf, zE, zS, reduceAdd])
            refine rg_nil ?_
            refine hK22 _ ?_; clear hK22; refine awp_keep [0, 1, 2, 3, 11, 20, 23, 26, 36, 42, 43] ?_; simp only [keepEnv, lkp, zE, reduceCtorEq, reduceEqDiff, argEnv, reduceAdd]
            refine awp_block ?_
            refine awp_loop (fun n23 s23 => ∃ (k : Nat), (k ≤ m.nx.length) ∧ (∀ i, i < k → rowE m i = 0) ∧ n23 = m.nx.length - k ∧ s23 = { env := [(1, .one (.ptr 0 0 0 0)), (3, .one (.int .i64 (m.nx.length : Int))), (42, .one (.int .i64 (m.nx.length : Int))), (43, .one (.int .i64 (k : Int)))], L := [.vars 24 [.int .i64 m.inp, .int .i64 m.st, .list (.list (.int .i64)) m.nx, .list (.list (.int .i64)) m.ot]] }) ?_ ?_
            · exact ⟨_, _, sub_keep [1, 3, 42, 43], 0, Nat.zero_le _, fun i hi => by omega, rfl, rfl⟩
            · rintro n23 s23 ⟨k, hk, hrows, rfl, rfl⟩
              refine awp_seq_k fun K24 hK24 => ?_
              refine awp_reg hP hN rfl ?_
              (refine rg_step rfl fun K0 hK0 => ?_; simp only [zE, op1, ev, lkp, avOf, acOf, opBin, arith, inK_i64, eqACs, eqAC, reduceCtorEq, reduceEqDiff, reduceAdd, reduceLeDiff, reduceLT, reduceMul, reduceSub, Try.td3, Try.td4, Mly.av]; (repeat refine And.intro (by first | omega | assumption | exact rfl) ?_); (first | refine hK0 _ ?_ | refine Or.inl (hK0 _ ?_)); clear hK0 K0; simp only [put, app, setAll, trOf, zE, zS, reduceAdd])
              refine rg_nil ?_
              refine hK24 _ ?_; clear hK24; refine awp_keep [1, 3, 42, 43, 44] ?_; simp only [keepEnv, lkp, zE, reduceCtorEq, reduceEqDiff, argEnv, reduceAdd]
              refine awp_seq_k fun K25 hK25 => ?_
              refine awp_cond (by simp only [ev, keepEnv, lkp, zE, reduceCtorEq, reduceEqDiff, argEnv, reduceAdd]; exact rfl) (fun hc26 => ?_) (fun hc26 => ?_)
              · (try simp only [zB, reduceCtorEq] at hc26)
                refine awp_skip ?_
                refine hK25 _ ?_; clear hK25; refine awp_keep [1, 3, 42, 43, 44] ?_; simp only [keepEnv, lkp, zE, reduceCtorEq, reduceEqDiff, argEnv, reduceAdd]
                refine awp_seq_k fun K27 hK27 => ?_
                refine awp_block ?_
                refine awp_seq_k fun K28 hK28 => ?_
                refine awp_reg hP hN rfl ?_
                iterate 2 (refine rg_step rfl fun K0 hK0 => ?_; simp only [zE, op1, ev, lkp, avOf, acOf, ev, reduceCtorEq, reduceEqDiff, reduceAdd, reduceLeDiff, reduceLT, reduceMul, reduceSub, Try.td3, Mly.av]; (repeat refine And.intro (by first | omega | assumption | exact rfl) ?_); (first | refine hK0 _ ?_ | refine Or.inl (hK0 _ ?_)); clear hK0 K0; simp only [put, app, setAll, trOf, zE, zS, reduceAdd])
                refine rg_nil ?_
                refine hK28 _ ?_; clear hK28; refine awp_keep [1, 3, 4, 42, 43, 44] ?_; simp only [keepEnv, lkp, zE, reduceCtorEq, reduceEqDiff, argEnv, reduceAdd]
                refine awp_seq_k fun K29 hK29 => ?_
                refine awp_seq_k fun K30 hK30 => ?_
                refine awp_drw hP hN Try.mixed rfl ?_
                iterate 9 (refine rg_step rfl fun K0 hK0 => ?_; simp only [zE, op1, ev, lkp, avOf, acOf, opFieldAddr, opLoad, Nat.mul_one, readAC, isAggK, acs, Ty.dflt, zG, cellsAt, opIndexAddr, Ty.size, ne_eq, not_false_eq_true, Int.natCast_one, Int.mul_one, opCallAny, opMM, opLen, lenAC, lenOk, fpAC, Nat.div_one, opAppend, srcOf, datOf, dite_true, opBin, arith, inK_i64, eqACs, eqAC, reduceCtorEq, reduceEqDiff, reduceAdd, reduceLeDiff, reduceLT, reduceMul, reduceSub, Try.el22, Try.el33, Try.st24, Try.td2, Try.td22, Try.td24, Try.td3, Try.td33, Try.td4, Mly.av]; (repeat refine And.intro (by first | omega | assumption | exact rfl) ?_); (first | refine hK0 _ ?_ | refine Or.inl (hK0 _ ?_)); clear hK0 K0; simp only [put, app, setAll, trOf, zE, zS, reduceAdd])
                (refine rg_step rfl fun K0 hK0 => ?_; simp only [zE, op1, ev, lkp, avOf, acOf, ev, reduceCtorEq, reduceEqDiff, reduceAdd, reduceLeDiff, reduceLT, reduceMul, reduceSub, Try.td4, Mly.av]; (repeat refine And.intro (by first | omega | assumption | exact rfl) ?_); (first | refine hK0 _ ?_ | refine Or.inl (hK0 _ ?_)); clear hK0 K0; simp only [put, app, setAll, trOf, zE, zS, reduceAdd])
                refine' rg_join_n (want := false) 9 rfl (m := 55) (by simp only [keepEnv, lkp, zE, reduceCtorEq, reduceEqDiff, argEnv, reduceAdd]; exact rfl) (by kernel_rfl) rfl rfl rfl rfl rfl (fun hg31 => ?a31) ?b31 ?c31
                case a31 =>
                  have hq31 := hg31; (try simp only [zB, reduceCtorEq] at hg31); simp only [List.take_succ_cons, List.take_zero, List.cons_append, List.nil_append]
                  (refine rg_do rfl fun K0 hK0 => ?_; simp only [zE, op1, ev, lkp, avOf, acOf, opFieldAddr, reduceCtorEq, reduceEqDiff, reduceAdd, reduceLeDiff, reduceLT, reduceMul, reduceSub, Try.st24, Try.td24, Try.td3, Mly.av]; (repeat refine And.intro (by first | omega | assumption | exact rfl) ?_); (first | refine hK0 _ ?_ | refine Or.inl (hK0 _ ?_)); clear hK0 K0; simp only [put, app, setAll, trOf, zE, zS, reduceAdd])
                  (refine rg_do rfl fun K0 hK0 => ?_; simp only [zE, op1, ev, lkp, avOf, acOf, opLoad, Nat.mul_one, readAC, isAggK, acs, Ty.dflt, zG, cellsAt, reduceCtorEq, reduceEqDiff, reduceAdd, reduceLeDiff, reduceLT, reduceMul, reduceSub, Try.el22, Try.td22, Mly.av]; (repeat refine And.intro (by first | omega | assumption | exact rfl) ?_); (first | refine hK0 _ ?_ | refine Or.inl (hK0 _ ?_)); clear hK0 K0; simp only [put, app, setAll, trOf, zE, zS, reduceAdd])
                  (refine rg_do rfl fun K0 hK0 => ?_; simp only [zE, op1, ev, lkp, avOf, acOf, ev, reduceCtorEq, reduceEqDiff, reduceAdd, reduceLeDiff, reduceLT, reduceMul, reduceSub, Try.td3, Mly.av]; (repeat refine And.intro (by first | omega | assumption | exact rfl) ?_); (first | refine hK0 _ ?_ | refine Or.inl (hK0 _ ?_)); clear hK0 K0; simp only [put, app, setAll, trOf, zE, zS, reduceAdd])
                  (refine rg_do rfl fun K0 hK0 => ?_; simp only [zE, op1, ev, lkp, avOf, acOf, opIndexAddr, zG, Ty.dflt, Ty.size, Nat.mul_one, ne_eq, not_false_eq_true, Int.natCast_one, Int.mul_one, reduceCtorEq, reduceEqDiff, reduceAdd, reduceLeDiff, reduceLT, reduceMul, reduceSub, Try.el22, Try.td22, Mly.av]; (repeat refine And.intro (by first | omega | assumption | exact rfl) ?_); (first | refine hK0 _ ?_ | refine Or.inl (hK0 _ ?_)); clear hK0 K0; simp only [put, app, setAll, trOf, zE, zS, reduceAdd])
                  (refine rg_do rfl fun K0 hK0 => ?_; simp only [zE, op1, ev, lkp, avOf, acOf, opLoad, Nat.mul_one, readAC, isAggK, acs, Ty.dflt, zG, cellsAt, reduceCtorEq, reduceEqDiff, reduceAdd, reduceLeDiff, reduceLT, reduceMul, reduceSub, Try.el33, Try.td33, Mly.av]; (repeat refine And.intro (by first | omega | assumption | exact rfl) ?_); (first | refine hK0 _ ?_ | refine Or.inl (hK0 _ ?_)); clear hK0 K0; simp only [put, app, setAll, trOf, zE, zS, reduceAdd])
                  (refine rg_do rfl fun K0 hK0 => ?_; simp only [zE, op1, ev, lkp, avOf, acOf, opCallAny, opMM, opLen, lenAC, lenOk, fpAC, Nat.div_one, opAppend, srcOf, Ty.size, datOf, dite_true, reduceCtorEq, reduceEqDiff, reduceAdd, reduceLeDiff, reduceLT, reduceMul, reduceSub, Try.el33, Try.td3, Try.td33, Mly.av]; (repeat refine And.intro (by first | omega | assumption | exact rfl) ?_); (first | refine hK0 _ ?_ | refine Or.inl (hK0 _ ?_)); clear hK0 K0; simp only [put, app, setAll, trOf, zE, zS, reduceAdd])
                  (refine rg_do rfl fun K0 hK0 => ?_; simp only [zE, op1, ev, lkp, avOf, acOf, opFieldAddr, reduceCtorEq, reduceEqDiff, reduceAdd, reduceLeDiff, reduceLT, reduceMul, reduceSub, Try.st24, Try.td24, Mly.av]; (repeat refine And.intro (by first | omega | assumption | exact rfl) ?_); (first | refine hK0 _ ?_ | refine Or.inl (hK0 _ ?_)); clear hK0 K0; simp only [put, app, setAll, trOf, zE, zS, reduceAdd])
                  (refine rg_do rfl fun K0 hK0 => ?_; simp only [zE, op1, ev, lkp, avOf, acOf, opLoad, Nat.mul_one, readAC, isAggK, acs, Ty.dflt, zG, cellsAt, reduceCtorEq, reduceEqDiff, reduceAdd, reduceLeDiff, reduceLT, reduceMul, reduceSub, Try.td3, Mly.av]; (repeat refine And.intro (by first | omega | assumption | exact rfl) ?_); (first | refine hK0 _ ?_ | refine Or.inl (hK0 _ ?_)); clear hK0 K0; simp only [put, app, setAll, trOf, zE, zS, reduceAdd])
                  (refine rg_do rfl fun K0 hK0 => ?_; simp only [zE, op1, ev, lkp, avOf, acOf, opBin, arith, inK_i64, eqACs, eqAC, reduceCtorEq, reduceEqDiff, reduceAdd, reduceLeDiff, reduceLT, reduceMul, reduceSub, Try.td3, Try.td4, Mly.av]; (repeat refine And.intro (by first | omega | assumption | exact rfl) ?_); (first | refine hK0 _ ?_ | refine Or.inl (hK0 _ ?_)); clear hK0 K0; simp only [put, app, setAll, trOf, zE, zS, reduceAdd])
                  (refine rg_step rfl fun K0 hK0 => ?_; simp only [zE, op1, ev, lkp, avOf, acOf, opPick, reduceCtorEq, reduceEqDiff, reduceAdd, reduceLeDiff, reduceLT, reduceMul, reduceSub, Try.td4, Mly.av]; (repeat refine And.intro (by first | omega | assumption | exact rfl) ?_); (first | refine hK0 _ ?_ | refine Or.inl (hK0 _ ?_)); clear hK0 K0; simp only [put, app, setAll, trOf, zE, zS, reduceAdd])
                  refine rg_nil ?_
                  refine ⟨by simp only [keepEnv, lkp, zE, reduceCtorEq, reduceEqDiff, argEnv, reduceAdd]; exact rfl, rfl, ?_, rfl⟩; (repeat refine keep_cons rfl ?_); exact keep_m (by exact rfl) hq31
                case b31 => exact tle_of (by first | rfl | (simp [tleB]; done) | decide)
                simp only [join_or, join_and]
                refine rg_nil ?_
                refine ⟨by kernel_rfl, ?_⟩
                refine hK30 _ ?_; clear hK30; refine awp_keep [1, 3, 4, 42, 43, 44, 65] ?_; simp only [keepEnv, lkp, zE, reduceCtorEq, reduceEqDiff, argEnv, reduceAdd]
                refine awp_cond (by simp only [ev, keepEnv, lkp, zE, reduceCtorEq, reduceEqDiff, argEnv, reduceAdd]; exact rfl) (fun hc32 => ?_) (fun hc32 => ?_)
                · (try simp only [zB, reduceCtorEq] at hc32)
                  refine awp_seq_k fun K33 hK33 => ?_
                  refine awp_reg hP hN rfl ?_
                  (refine rg_step rfl fun K0 hK0 => ?_; simp only [zE, op1, ev, lkp, avOf, acOf, ev, reduceCtorEq, reduceEqDiff, reduceAdd, reduceLeDiff, reduceLT, reduceMul, reduceSub, Try.td27, Mly.av]; (repeat refine And.intro (by first | omega | assumption | exact rfl) ?_); (first | refine hK0 _ ?_ | refine Or.inl (hK0 _ ?_)); clear hK0 K0; simp only [put, app, setAll, trOf, zE, zS, reduceAdd])
                  refine rg_nil ?_
                  refine hK33 _ ?_; clear hK33; refine awp_keep [1, 2, 3, 4, 42, 43, 44, 65] ?_; simp only [keepEnv, lkp, zE, reduceCtorEq, reduceEqDiff, argEnv, reduceAdd]
                  refine awp_ret ?_
                  refine ⟨by first | exact .inl rfl | exact .inr rfl, _, rfl, ?_⟩; simp only [fzV, fz1, fzC, List.map_cons, List.map_nil, keepEnv, lkp, zE, reduceCtorEq, reduceEqDiff, argEnv, reduceAdd, Mly.av]
                  refine VLE.of_eq ?_
                  refine congrArg (fun n => AV.one (AC.int IntKind.i64 n)) ?_
                  symm
                  unfold validE
                  first
                  | (rw [if_pos (by omega)]; done)
                  | (rw [if_neg (by omega), if_pos (by omega)]; done)
                  | (rw [if_neg (by omega), if_neg (by omega), if_pos (by omega)]; done)
                  | (rw [if_neg (by omega), if_neg (by omega), if_neg (by omega), if_pos (by omega)]; done)
                  | (rw [if_neg (by omega), if_neg (by omega), if_neg (by omega), if_neg (by omega), if_pos (by omega)]; done)
                  | (rw [if_neg (by omega), if_neg (by omega), if_neg (by omega), if_neg (by omega), if_neg (by omega)]
                     first
                     | exact (firstE_at hrows (by omega) (by rw [rowE_bad2 hc32.1 hc32.2 (j := j) (by omega) (by unfold cellBad; omega)]; decide)).trans (rowE_bad2 hc32.1 hc32.2 (by omega) (by unfold cellBad; omega))
                     | exact (firstE_at hrows (by omega) (by rw [rowE_bad1 hc32]; decide)).trans (rowE_bad1 hc32)
                     | exact firstE_zero fun i hi => hrows i (by omega))
                · (try simp only [zB, reduceCtorEq] at hc32)
                  refine awp_skip ?_
                  refine hK29 _ ?_; clear hK29; refine awp_keep [1, 3, 4, 42, 43, 44, 65] ?_; simp only [keepEnv, lkp, zE, reduceCtorEq, reduceEqDiff, argEnv, reduceAdd]
                  refine awp_seq_k fun K34 hK34 => ?_
                  refine awp_reg hP hN rfl ?_
                  iterate 3 (refine rg_step rfl fun K0 hK0 => ?_; simp only [zE, op1, ev, lkp, avOf, acOf, opFieldAddr, opLoad, Nat.mul_one, readAC, isAggK, acs, Ty.dflt, zG, cellsAt, reduceCtorEq, reduceEqDiff, reduceAdd, reduceLeDiff, reduceLT, reduceMul, reduceSub, Try.st24, Try.td24, Try.td3, Mly.av]; (repeat refine And.intro (by first | omega | assumption | exact rfl) ?_); (first | refine hK0 _ ?_ | refine Or.inl (hK0 _ ?_)); clear hK0 K0; simp only [put, app, setAll, trOf, zE, zS, reduceAdd])
                  refine rg_nil ?_
                  refine hK34 _ ?_; clear hK34; refine awp_keep [1, 3, 4, 42, 43, 44, 65, 67, 68] ?_; simp only [keepEnv, lkp, zE, reduceCtorEq, reduceEqDiff, argEnv, reduceAdd]
                  refine awp_block ?_
                  refine awp_loop (fun n35 s35 => ∃ (j : Nat), ((j : Int) ≤ m.inp) ∧ (∀ a, a < j → ¬ cellBad m k a) ∧ n35 = m.inp.toNat - j ∧ s35 = { env := [(1, .one (.ptr 0 0 0 0)), (3, .one (.int .i64 (m.nx.length : Int))), (4, .one (.int .i64 (k : Int))), (42, .one (.int .i64 (m.nx.length : Int))), (43, .one (.int .i64 (k : Int))), (67, .one (.int .i64 m.inp)), (68, .one (.int .i64 (j : Int)))], L := [.vars 24 [.int .i64 m.inp, .int .i64 m.st, .list (.list (.int .i64)) m.nx, .list (.list (.int .i64)) m.ot]] }) ?_ ?_
                  · refine ⟨_, _, sub_keep [1, 3, 4, 42, 43, 67, 68], 0, ?_, fun i hi => by omega, rfl, rfl⟩; omega
                  · rintro n35 s35 ⟨j, hj, hcells, rfl, rfl⟩
                    refine awp_seq_k fun K36 hK36 => ?_
                    refine awp_reg hP hN rfl ?_
                    (refine rg_step rfl fun K0 hK0 => ?_; simp only [zE, op1, ev, lkp, avOf, acOf, opBin, arith, inK_i64, eqACs, eqAC, reduceCtorEq, reduceEqDiff, reduceAdd, reduceLeDiff, reduceLT, reduceMul, reduceSub, Try.td3, Try.td4, Mly.av]; (repeat refine And.intro (by first | omega | assumption | exact rfl) ?_); (first | refine hK0 _ ?_ | refine Or.inl (hK0 _ ?_)); clear hK0 K0; simp only [put, app, setAll, trOf, zE, zS, reduceAdd])
                    refine rg_nil ?_
                    refine hK36 _ ?_; clear hK36; refine awp_keep [1, 3, 4, 42, 43, 67, 68, 69] ?_; simp only [keepEnv, lkp, zE, reduceCtorEq, reduceEqDiff, argEnv, reduceAdd]
                    refine awp_seq_k fun K37 hK37 => ?_
                    refine awp_cond (by simp only [ev, keepEnv, lkp, zE, reduceCtorEq, reduceEqDiff, argEnv, reduceAdd]; exact rfl) (fun hc38 => ?_) (fun hc38 => ?_)
                    · (try simp only [zB, reduceCtorEq] at hc38)
                      refine awp_skip ?_
                      refine hK37 _ ?_; clear hK37; refine awp_keep [1, 3, 4, 42, 43, 67, 68, 69] ?_; simp only [keepEnv, lkp, zE, reduceCtorEq, reduceEqDiff, argEnv, reduceAdd]
                      refine awp_seq_k fun K39 hK39 => ?_
                      refine awp_block ?_
                      refine awp_seq_k fun K40 hK40 => ?_
                      refine awp_reg hP hN rfl ?_
                      iterate 2 (refine rg_step rfl fun K0 hK0 => ?_; simp only [zE, op1, ev, lkp, avOf, acOf, ev, reduceCtorEq, reduceEqDiff, reduceAdd, reduceLeDiff, reduceLT, reduceMul, reduceSub, Try.td3, Mly.av]; (repeat refine And.intro (by first | omega | assumption | exact rfl) ?_); (first | refine hK0 _ ?_ | refine Or.inl (hK0 _ ?_)); clear hK0 K0; simp only [put, app, setAll, trOf, zE, zS, reduceAdd])
                      refine rg_nil ?_
                      refine hK40 _ ?_; clear hK40; refine awp_keep [1, 3, 4, 5, 42, 43, 67, 68, 69] ?_; simp only [keepEnv, lkp, zE, reduceCtorEq, reduceEqDiff, argEnv, reduceAdd]
                      refine awp_seq_k fun K41 hK41 => ?_
                      refine awp_drw hP hN Try.mixed rfl ?_
                      iterate 18 (refine rg_step rfl fun K0 hK0 => ?_; simp only [zE, op1, ev, lkp, avOf, acOf, opFieldAddr, opLoad, Nat.mul_one, readAC, isAggK, acs, Ty.dflt, zG, cellsAt, opIndexAddr, Ty.size, ne_eq, not_false_eq_true, Int.natCast_one, Int.mul_one, reduceCtorEq, reduceEqDiff, reduceAdd, reduceLeDiff, reduceLT, reduceMul, reduceSub, Try.el22, Try.el33, Try.st24, Try.td2, Try.td22, Try.td24, Try.td3, Try.td33, Mly.av]; (repeat refine And.intro (by first | omega | assumption | exact rfl) ?_); (first | refine hK0 _ ?_ | refine Or.inl (hK0 _ ?_)); clear hK0 K0; simp only [put, app, setAll, trOf, zE, zS, reduceAdd])
                      refine rg_nil ?_
                      refine ⟨by kernel_rfl, ?_⟩
                      refine hK41 _ ?_; clear hK41; refine awp_keep [1, 3, 4, 5, 6, 7, 42, 43, 67, 68, 69] ?_; simp only [keepEnv, lkp, zE, reduceCtorEq, reduceEqDiff, argEnv, reduceAdd]
                      refine awp_seq_k fun K42 hK42 => ?_
                      refine awp_reg hP hN rfl ?_
                      iterate 2 (refine rg_step rfl fun K0 hK0 => ?_; simp only [zE, op1, ev, lkp, avOf, acOf, opBin, arith, inK_i64, eqACs, eqAC, reduceCtorEq, reduceEqDiff, reduceAdd, reduceLeDiff, reduceLT, reduceMul, reduceSub, Try.td3, Try.td4, Mly.av]; (repeat refine And.intro (by first | omega | assumption | exact rfl) ?_); (first | refine hK0 _ ?_ | refine Or.inl (hK0 _ ?_)); clear hK0 K0; simp only [put, app, setAll, trOf, zE, zS, reduceAdd])
                      (refine rg_step rfl fun K0 hK0 => ?_; simp only [zE, op1, ev, lkp, avOf, acOf, ev, reduceCtorEq, reduceEqDiff, reduceAdd, reduceLeDiff, reduceLT, reduceMul, reduceSub, Try.td4, Mly.av]; (repeat refine And.intro (by first | omega | assumption | exact rfl) ?_); (first | refine hK0 _ ?_ | refine Or.inl (hK0 _ ?_)); clear hK0 K0; simp only [put, app, setAll, trOf, zE, zS, reduceAdd])
                      refine' rg_join_n (want := false) 3 rfl (m := 89) (by simp only [keepEnv, lkp, zE, reduceCtorEq, reduceEqDiff, argEnv, reduceAdd]; exact rfl) (by kernel_rfl) rfl rfl rfl rfl rfl (fun hg43 => ?a43) ?b43 ?c43
                      case a43 =>
                        have hq43 := hg43; (try simp only [zB, reduceCtorEq] at hg43); simp only [List.take_succ_cons, List.take_zero, List.cons_append, List.nil_append]
                        (refine rg_do rfl fun K0 hK0 => ?_; simp only [zE, op1, ev, lkp, avOf, acOf, ev, reduceCtorEq, reduceEqDiff, reduceAdd, reduceLeDiff, reduceLT, reduceMul, reduceSub, Try.td3, Mly.av]; (repeat refine And.intro (by first | omega | assumption | exact rfl) ?_); (first | refine hK0 _ ?_ | refine Or.inl (hK0 _ ?_)); clear hK0 K0; simp only [put, app, setAll, trOf, zE, zS, reduceAdd])
                        (refine rg_do rfl fun K0 hK0 => ?_; simp only [zE, op1, ev, lkp, avOf, acOf, ev, reduceCtorEq, reduceEqDiff, reduceAdd, reduceLeDiff, reduceLT, reduceMul, reduceSub, Try.td3, Mly.av]; (repeat refine And.intro (by first | omega | assumption | exact rfl) ?_); (first | refine hK0 _ ?_ | refine Or.inl (hK0 _ ?_)); clear hK0 K0; simp only [put, app, setAll, trOf, zE, zS, reduceAdd])
                        (refine rg_do rfl fun K0 hK0 => ?_; simp only [zE, op1, ev, lkp, avOf, acOf, opBin, arith, inK_i64, eqACs, eqAC, reduceCtorEq, reduceEqDiff, reduceAdd, reduceLeDiff, reduceLT, reduceMul, reduceSub, Try.td3, Try.td4, Mly.av]; (repeat refine And.intro (by first | omega | assumption | exact rfl) ?_); (first | refine hK0 _ ?_ | refine Or.inl (hK0 _ ?_)); clear hK0 K0; simp only [put, app, setAll, trOf, zE, zS, reduceAdd])
                        (refine rg_step rfl fun K0 hK0 => ?_; simp only [zE, op1, ev, lkp, avOf, acOf, opPick, reduceCtorEq, reduceEqDiff, reduceAdd, reduceLeDiff, reduceLT, reduceMul, reduceSub, Try.td4, Mly.av]; (repeat refine And.intro (by first | omega | assumption | exact rfl) ?_); (first | refine hK0 _ ?_ | refine Or.inl (hK0 _ ?_)); clear hK0 K0; simp only [put, app, setAll, trOf, zE, zS, reduceAdd])
                        refine rg_nil ?_
                        refine ⟨by simp only [keepEnv, lkp, zE, reduceCtorEq, reduceEqDiff, argEnv, reduceAdd]; exact rfl, rfl, ?_, rfl⟩; (repeat refine keep_cons rfl ?_); exact keep_m (by exact rfl) hq43
                      case b43 => exact tle_of (by first | rfl | (simp [tleB]; done) | decide)
                      simp only [join_or, join_and]
                      (refine rg_step rfl fun K0 hK0 => ?_; simp only [zE, op1, ev, lkp, avOf, acOf, ev, reduceCtorEq, reduceEqDiff, reduceAdd, reduceLeDiff, reduceLT, reduceMul, reduceSub, Try.td4, Mly.av]; (repeat refine And.intro (by first | omega | assumption | exact rfl) ?_); (first | refine hK0 _ ?_ | refine Or.inl (hK0 _ ?_)); clear hK0 K0; simp only [put, app, setAll, trOf, zE, zS, reduceAdd])
                      refine' rg_join_n (want := false) 2 rfl (m := 94) (by simp only [keepEnv, lkp, zE, reduceCtorEq, reduceEqDiff, argEnv, reduceAdd]; exact rfl) (by kernel_rfl) rfl rfl rfl rfl rfl (fun hg44 => ?a44) ?b44 ?c44
                      case a44 =>
                        have hq44 := hg44; (try simp only [zB, reduceCtorEq] at hg44); simp only [List.take_succ_cons, List.take_zero, List.cons_append, List.nil_append]
                        (refine rg_do rfl fun K0 hK0 => ?_; simp only [zE, op1, ev, lkp, avOf, acOf, ev, reduceCtorEq, reduceEqDiff, reduceAdd, reduceLeDiff, reduceLT, reduceMul, reduceSub, Try.td3, Mly.av]; (repeat refine And.intro (by first | omega | assumption | exact rfl) ?_); (first | refine hK0 _ ?_ | refine Or.inl (hK0 _ ?_)); clear hK0 K0; simp only [put, app, setAll, trOf, zE, zS, reduceAdd])
                        (refine rg_do rfl fun K0 hK0 => ?_; simp only [zE, op1, ev, lkp, avOf, acOf, opBin, arith, inK_i64, eqACs, eqAC, reduceCtorEq, reduceEqDiff, reduceAdd, reduceLeDiff, reduceLT, reduceMul, reduceSub, Try.td3, Try.td4, Mly.av]; (repeat refine And.intro (by first | omega | assumption | exact rfl) ?_); (first | refine hK0 _ ?_ | refine Or.inl (hK0 _ ?_)); clear hK0 K0; simp only [put, app, setAll, trOf, zE, zS, reduceAdd])
                        (refine rg_step rfl fun K0 hK0 => ?_; simp only [zE, op1, ev, lkp, avOf, acOf, opPick, reduceCtorEq, reduceEqDiff, reduceAdd, reduceLeDiff, reduceLT, reduceMul, reduceSub, Try.td4, Mly.av]; (repeat refine And.intro (by first | omega | assumption | exact rfl) ?_); (first | refine hK0 _ ?_ | refine Or.inl (hK0 _ ?_)); clear hK0 K0; simp only [put, app, setAll, trOf, zE, zS, reduceAdd])
                        refine rg_nil ?_
                        refine ⟨by simp only [keepEnv, lkp, zE, reduceCtorEq, reduceEqDiff, argEnv, reduceAdd]; exact rfl, rfl, ?_, rfl⟩; (repeat refine keep_cons rfl ?_); exact keep_m (by exact rfl) hq44
                      case b44 => exact tle_of (by first | rfl | (simp [tleB]; done) | decide)
                      simp only [join_or, join_and]
                      (refine rg_step rfl fun K0 hK0 => ?_; simp only [zE, op1, ev, lkp, avOf, acOf, ev, reduceCtorEq, reduceEqDiff, reduceAdd, reduceLeDiff, reduceLT, reduceMul, reduceSub, Try.td4, Mly.av]; (repeat refine And.intro (by first | omega | assumption | exact rfl) ?_); (first | refine hK0 _ ?_ | refine Or.inl (hK0 _ ?_)); clear hK0 K0; simp only [put, app, setAll, trOf, zE, zS, reduceAdd])
                      refine' rg_join_n (want := false) 2 rfl (m := 98) (by simp only [keepEnv, lkp, zE, reduceCtorEq, reduceEqDiff, argEnv, reduceAdd]; exact rfl) (by kernel_rfl) rfl rfl rfl rfl rfl (fun hg45 => ?a45) ?b45 ?c45
                      case a45 =>
                        have hq45 := hg45; (try simp only [zB, reduceCtorEq] at hg45); simp only [List.take_succ_cons, List.take_zero, List.cons_append, List.nil_append]
                        (refine rg_do rfl fun K0 hK0 => ?_; simp only [zE, op1, ev, lkp, avOf, acOf, ev, reduceCtorEq, reduceEqDiff, reduceAdd, reduceLeDiff, reduceLT, reduceMul, reduceSub, Try.td3, Mly.av]; (repeat refine And.intro (by first | omega | assumption | exact rfl) ?_); (first | refine hK0 _ ?_ | refine Or.inl (hK0 _ ?_)); clear hK0 K0; simp only [put, app, setAll, trOf, zE, zS, reduceAdd])
                        (refine rg_do rfl fun K0 hK0 => ?_; simp only [zE, op1, ev, lkp, avOf, acOf, opBin, arith, inK_i64, eqACs, eqAC, reduceCtorEq, reduceEqDiff, reduceAdd, reduceLeDiff, reduceLT, reduceMul, reduceSub, Try.td3, Try.td4, Mly.av]; (repeat refine And.intro (by first | omega | assumption | exact rfl) ?_); (first | refine hK0 _ ?_ | refine Or.inl (hK0 _ ?_)); clear hK0 K0; simp only [put, app, setAll, trOf, zE, zS, reduceAdd])
                        (refine rg_step rfl fun K0 hK0 => ?_; simp only [zE, op1, ev, lkp, avOf, acOf, opPick, reduceCtorEq, reduceEqDiff, reduceAdd, reduceLeDiff, reduceLT, reduceMul, reduceSub, Try.td4, Mly.av]; (repeat refine And.intro (by first | omega | assumption | exact rfl) ?_); (first | refine hK0 _ ?_ | refine Or.inl (hK0 _ ?_)); clear hK0 K0; simp only [put, app, setAll, trOf, zE, zS, reduceAdd])
                        refine rg_nil ?_
                        refine ⟨by simp only [keepEnv, lkp, zE, reduceCtorEq, reduceEqDiff, argEnv, reduceAdd]; exact rfl, rfl, ?_, rfl⟩; (repeat refine keep_cons rfl ?_); exact keep_m (by exact rfl) hq45
                      case b45 => exact tle_of (by first | rfl | (simp [tleB]; done) | decide)
                      simp only [join_or, join_and]
                      refine rg_nil ?_
                      refine hK42 _ ?_; clear hK42; refine awp_keep [1, 3, 4, 5, 6, 7, 42, 43, 67, 68, 69, 101] ?_; simp only [keepEnv, lkp, zE, reduceCtorEq, reduceEqDiff, argEnv, reduceAdd]
                      refine awp_cond (by simp only [ev, keepEnv, lkp, zE, reduceCtorEq, reduceEqDiff, argEnv, reduceAdd]; exact rfl) (fun hc46 => ?_) (fun hc46 => ?_)
                      · (try simp only [zB, reduceCtorEq] at hc46)
                        refine awp_seq_k fun K47 hK47 => ?_
                        refine awp_reg hP hN rfl ?_
                        (refine rg_step rfl fun K0 hK0 => ?_; simp only [zE, op1, ev, lkp, avOf, acOf, ev, reduceCtorEq, reduceEqDiff, reduceAdd, reduceLeDiff, reduceLT, reduceMul, reduceSub, Try.td27, Mly.av]; (repeat refine And.intro (by first | omega | assumption | exact rfl) ?_); (first | refine hK0 _ ?_ | refine Or.inl (hK0 _ ?_)); clear hK0 K0; simp only [put, app, setAll, trOf, zE, zS, reduceAdd])
                        refine rg_nil ?_
                        refine hK47 _ ?_; clear hK47; refine awp_keep [1, 2, 3, 4, 5, 6, 7, 42, 43, 67, 68, 69, 101] ?_; simp only [keepEnv, lkp, zE, reduceCtorEq, reduceEqDiff, argEnv, reduceAdd]
                        refine awp_ret ?_
                        refine ⟨by first | exact .inl rfl | exact .inr rfl, _, rfl, ?_⟩; simp only [fzV, fz1, fzC, List.map_cons, List.map_nil, keepEnv, lkp, zE, reduceCtorEq, reduceEqDiff, argEnv, reduceAdd, Mly.av]
                        refine VLE.of_eq ?_
                        refine congrArg (fun n => AV.one (AC.int IntKind.i64 n)) ?_
                        symm
                        unfold validE
                        first
                        | (rw [if_pos (by omega)]; done)
                        | (rw [if_neg (by omega), if_pos (by omega)]; done)
                        | (rw [if_neg (by omega), if_neg (by omega), if_pos (by omega)]; done)
                        | (rw [if_neg (by omega), if_neg (by omega), if_neg (by omega), if_pos (by omega)]; done)
                        | (rw [if_neg (by omega), if_neg (by omega), if_neg (by omega), if_neg (by omega), if_pos (by omega)]; done)
                        | (rw [if_neg (by omega), if_neg (by omega), if_neg (by omega), if_neg (by omega), if_neg (by omega)]
                           first
                           | exact (firstE_at hrows (by omega) (by rw [rowE_bad2 hc32.1 hc32.2 (j := j) (by omega) (by unfold cellBad; omega)]; decide)).trans (rowE_bad2 hc32.1 hc32.2 (by omega) (by unfold cellBad; omega))
                           | exact (firstE_at hrows (by omega) (by rw [rowE_bad1 hc32]; decide)).trans (rowE_bad1 hc32)
                           | exact firstE_zero fun i hi => hrows i (by omega))
                      · (try simp only [zB, reduceCtorEq] at hc46)
                        refine awp_skip ?_
                        refine hK39 _ ?_; clear hK39; refine awp_keep [1, 3, 4, 5, 6, 7, 42, 43, 67, 68, 69, 101] ?_; simp only [keepEnv, lkp, zE, reduceCtorEq, reduceEqDiff, argEnv, reduceAdd]
                        refine awp_reg hP hN rfl ?_
                        iterate 2 (refine rg_step rfl fun K0 hK0 => ?_; simp only [zE, op1, ev, lkp, avOf, acOf, opBin, arith, inK_i64, eqACs, eqAC, reduceCtorEq, reduceEqDiff, reduceAdd, reduceLeDiff, reduceLT, reduceMul, reduceSub, Try.td3, Mly.av]; (repeat refine And.intro (by first | omega | assumption | exact rfl) ?_); (first | refine hK0 _ ?_ | refine Or.inl (hK0 _ ?_)); clear hK0 K0; simp only [put, app, setAll, trOf, zE, zS, reduceAdd])
                        refine rg_nil ?_
                        refine ⟨_, _, ?_, sub_keep [1, 3, 4, 42, 43, 67, 68], j + 1, ?_, fun a ha => ?_, rfl, rfl⟩
                        · omega
                        · omega
                        · by_cases e : a = j
                          · rw [e]; unfold cellBad; omega
                          · exact hcells a (by omega)
                    · (try simp only [zB, reduceCtorEq] at hc38)
                      refine awp_exit ?_
                      refine hK27 _ ?_; clear hK27; refine awp_keep [1, 3, 4, 42, 43, 67, 68, 69] ?_; simp only [keepEnv, lkp, zE, reduceCtorEq, reduceEqDiff, argEnv, reduceAdd]
                      refine awp_reg hP hN rfl ?_
                      iterate 2 (refine rg_step rfl fun K0 hK0 => ?_; simp only [zE, op1, ev, lkp, avOf, acOf, opBin, arith, inK_i64, eqACs, eqAC, reduceCtorEq, reduceEqDiff, reduceAdd, reduceLeDiff, reduceLT, reduceMul, reduceSub, Try.td3, Mly.av]; (repeat refine And.intro (by first | omega | assumption | exact rfl) ?_); (first | refine hK0 _ ?_ | refine Or.inl (hK0 _ ?_)); clear hK0 K0; simp only [put, app, setAll, trOf, zE, zS, reduceAdd])
                      refine rg_nil ?_
                      refine ⟨_, _, ?_, sub_keep [1, 3, 42, 43], k + 1, by omega, fun i hi => ?_, rfl, rfl⟩
                      · omega
                      · by_cases e : i = k
                        · rw [e]; exact rowE_ok hc32.1 hc32.2 fun a ha => hcells a (by omega)
                        · exact hrows i (by omega)
              · (try simp only [zB, reduceCtorEq] at hc26)
                refine awp_exit ?_
                refine hK21 _ ?_; clear hK21; refine awp_keep [1, 3, 42, 43, 44] ?_; simp only [keepEnv, lkp, zE, reduceCtorEq, reduceEqDiff, argEnv, reduceAdd]
                refine awp_seq_k fun K48 hK48 => ?_
                refine awp_reg hP hN rfl ?_
                (refine rg_step rfl fun K0 hK0 => ?_; simp only [zE, op1, ev, lkp, avOf, acOf, ev, reduceCtorEq, reduceEqDiff, reduceAdd, reduceLeDiff, reduceLT, reduceMul, reduceSub, Try.td27, Mly.av]; (repeat refine And.intro (by first | omega | assumption | exact rfl) ?_); (first | refine hK0 _ ?_ | refine Or.inl (hK0 _ ?_)); clear hK0 K0; simp only [put, app, setAll, trOf, zE, zS, reduceAdd])
                refine rg_nil ?_
                refine hK48 _ ?_; clear hK48; refine awp_keep [1, 2, 3, 42, 43, 44] ?_; simp only [keepEnv, lkp, zE, reduceCtorEq, reduceEqDiff, argEnv, reduceAdd]
                refine awp_ret ?_
                refine ⟨by first | exact .inl rfl | exact .inr rfl, _, rfl, ?_⟩; simp only [fzV, fz1, fzC, List.map_cons, List.map_nil, keepEnv, lkp, zE, reduceCtorEq, reduceEqDiff, argEnv, reduceAdd, Mly.av]
                refine VLE.of_eq ?_
                refine congrArg (fun n => AV.one (AC.int IntKind.i64 n)) ?_
                symm
                unfold validE
                first
                | (rw [if_pos (by omega)]; done)
                | (rw [if_neg (by omega), if_pos (by omega)]; done)
                | (rw [if_neg (by omega), if_neg (by omega), if_pos (by omega)]; done)
                | (rw [if_neg (by omega), if_neg (by omega), if_neg (by omega), if_pos (by omega)]; done)
                | (rw [if_neg (by omega), if_neg (by omega), if_neg (by omega), if_neg (by omega), if_pos (by omega)]; done)
                | (rw [if_neg (by omega), if_neg (by omega), if_neg (by omega), if_neg (by omega), if_neg (by omega)]
                   first
                   | exact (firstE_at hrows (by omega) (by rw [rowE_bad2 hc32.1 hc32.2 (j := j) (by omega) (by unfold cellBad; omega)]; decide)).trans (rowE_bad2 hc32.1 hc32.2 (by omega) (by unfold cellBad; omega))
                   | exact (firstE_at hrows (by omega) (by rw [rowE_bad1 hc32]; decide)).trans (rowE_bad1 hc32)
                   | exact firstE_zero fun i hi => hrows i (by omega))
end Go.Proofs.Ytfbnhgefkdhiaaa
