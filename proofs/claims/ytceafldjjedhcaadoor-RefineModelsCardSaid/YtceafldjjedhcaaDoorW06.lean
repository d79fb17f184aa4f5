/- Contracts of functions of this seat, each out of a walk through its code, and plain facts on what they compute. Conditions: those that each theorem names. -/
import Derived.Test.YtceafldjjedhcaaDoorW05
set_option linter.unusedSimpArgs false
set_option linter.unusedVariables false
namespace Go.AV
open Nat renaming reduceEqDiff → J, reduceAdd → E, reduceLeDiff → U, reduceLT → Z, reduceMul → V, reduceSub → Y
open List renaming set_cons_zero → aw, set_cons_succ → au
/-plain-/
/-! Runs of composed machines. -/
structure PRL (a b M : Mly) (w : List Int) : Prop where
  v : bj M = 0
  st : M.st = 0
  re : M.reach.length = M.nx.length
  ea : gg a a.st w = d4 w a.inp
  eb : gg b b.st w = d4 w a.inp
  em : gg M M.st w = d4 w a.inp
  la : (dV a a.st w).length = (dV M M.st w).length
  lb : (dV b b.st w).length = (dV M M.st w).length
  at_ : ∀ i, i < (dV M M.st w).length → (dV M M.st w).getD i 0 = (dV a a.st w).getD i 0 * (1 + gr b) + (dV b b.st w).getD i 0
structure CAL (a b M : Mly) (w : List Int) : Prop where
  v : bj M = 0
  ea : gg a a.st w = d4 w a.inp
  em : gg M M.st w = d4 w a.inp
  eb : d4 w a.inp = 0 → gg b b.st (dV a a.st w) = 0
  vb : d4 w a.inp = 0 → dV b b.st (dV a a.st w) = dV M M.st w
/-! Parallel. -/
def plU (n : Int) (w : List Int) : List Int := w.filter fun x => decide (x < n)
def plV (n : Int) (w : List Int) : List Int := (w.filter fun x => !decide (x < n)).map fun x => x - n
def plA (n : Int) (e : List (Int × Int)) : List Int := (e.filter fun x => decide (x.1 < n)).map (·.2)
def plB (n k : Int) (e : List (Int × Int)) : List Int := (e.filter fun x => !decide (x.1 < n)).map fun x => x.2 - 1 - k
structure PLL (a b M : Mly) (w : List Int) : Prop where
  v : bj M = 0
  inp : M.inp = a.inp + b.inp
  em : gg M M.st w = d4 w (a.inp + b.inp)
  lm : d4 w (a.inp + b.inp) = 0 → (dV M M.st w).length = w.length
  ea : d4 w (a.inp + b.inp) = 0 → gg a a.st (plU a.inp w) = 0
  eb : d4 w (a.inp + b.inp) = 0 → gg b b.st (plV a.inp w) = 0
  va : d4 w (a.inp + b.inp) = 0 → dV a a.st (plU a.inp w) = plA a.inp (w.zip (dV M M.st w))
  vb : d4 w (a.inp + b.inp) = 0 → dV b b.st (plV a.inp w) = plB a.inp (gr a) (w.zip (dV M M.st w))
/-! Restrict and Map. -/
end Go.AV
namespace Go.AV
open Nat renaming reduceEqDiff → J, reduceAdd → E, reduceLeDiff → U, reduceLT → Z, reduceMul → V, reduceSub → Y
open List renaming set_cons_zero → aw, set_cons_succ → au
/-plain-/
end Go.AV
namespace Go.AV
open Nat renaming reduceEqDiff → J, reduceAdd → E, reduceLeDiff → U, reduceLT → Z, reduceMul → V, reduceSub → Y
open List renaming set_cons_zero → aw, set_cons_succ → au
/-plain-/
/-! ### the access words, found again from the list of reached states -/
theorem vN {m : Mly} (hm : MOK m) {s t : Int} (hs : 0 ≤ s ∧ s < m.nx.length) (ht : 0 ≤ t ∧ t < m.nx.length) : (seS m m s t).isSome = !decide (m.eqc.getD s.toNat 0 = m.eqc.getD t.toNat 0) := by
  have h1 := uu hm hm rfl hs ht
  have h2 := me hm hs.1 hs.2 ht.1 ht.2
  have h3 : seS m m s t = none ↔ m.eqc.getD s.toNat 0 = m.eqc.getD t.toNat 0 := h1.trans h2.symm
  cases hc : seS m m s t with
  | none => rw [decide_eq_true (h3.1 hc)]; rfl
  | some w =>
    have : ¬ m.eqc.getD s.toNat 0 = m.eqc.getD t.toNat 0 := fun hh => by rw [h3.2 hh] at hc; cases hc
    rw [decide_eq_false this]; rfl
end Go.AV
namespace Go.AV
open Nat renaming reduceEqDiff → J, reduceAdd → E, reduceLeDiff → U, reduceLT → Z, reduceMul → V, reduceSub → Y
open List renaming set_cons_zero → aw, set_cons_succ → au
/-plain-/
/-! ### a witness's words: identified by the list, but told apart by the machine -/
def SYM (n : Int) (w : List Int) : Prop := ∀ a, a ∈ w → 0 ≤ a ∧ a < n
theorem wm {n : Int} {w : List Int} (h : ∀ i : Nat, i < w.length → 0 ≤ w.getD i 0 ∧ w.getD i 0 < n) : SYM n w := fun a ha => by
  obtain ⟨i, hi⟩ := List.getElem?_of_mem ha
  have h1 := (List.getElem?_eq_some_iff.1 hi).1
  have := h i h1
  simpa [List.getD, hi] using this
theorem ij {n : Int} {u v : List Int} (hu : SYM n u) (hv : SYM n v) : SYM n (u ++ v) := fun a ha => by
  rcases List.mem_append.1 ha with h | h
  · exact hu a h
  · exact hv a h
theorem mX {n : Int} {x : Nat} (h : (x : Int) < n) : SYM n [(x : Int)] := fun a ha => by
  have : a = (x : Int) := by simpa using ha
  omega
def AGW (m : Mly) (e : S2) : Prop := (m.go m.st e.2).1 = e.1 ∧ SYM m.inp e.2
theorem wq {m : Mly} {e : S2} {l : List S2} {x : Nat} (h : ∀ f, f ∈ l → AGW m f) (he : AGW m e) (hx : (x : Int) < m.inp) : ∀ f, f ∈ stX m e l x → AGW m f := by
  unfold stX
  split
  · exact h
  · intro f hf
    rcases List.mem_append.1 hf with hf | hf
    · exact h f hf
    · have e1 : f = ((m.row e.1).getD x 0, e.2 ++ [(x : Int)]) := by simpa using hf
      subst e1
      refine ⟨?_, ij he.2 (mX hx)⟩
      rw [j9, he.1]; rfl
theorem pI {m : Mly} {e : S2} {l : List S2} (h : ∀ f, f ∈ l → AGW m f) (he : AGW m e) : ∀ x : Nat, (x : Int) ≤ m.inp → ∀ f, f ∈ dt m e l x → AGW m f
  | 0, _ => by simpa [dt] using h
  | x + 1, hx => by
    rw [dU]
    exact wq (pI h he x (by omega)) he (by omega)
theorem pQ {m : Mly} (hi : 0 ≤ m.inp) : ∀ (f i : Nat) (l : List S2), (∀ e, e ∈ l → AGW m e) → ∀ e, e ∈ exF m f i l → AGW m e
  | 0, _, _, h => h
  | f + 1, i, l, h => by
    simp only [exF]
    split
    · rename_i hil
      exact pQ hi f (i + 1) _ (pI h (h _ (kz hil)) m.inp.toNat (by omega))
    · exact h
theorem uY {m : Mly} (hm : MOK m) : ∀ e, e ∈ m.exR → AGW m e := by
  have := hm.i1
  refine pQ (by omega) _ _ _ fun e he => ?_
  have e1 : e = (m.st, []) := by simpa using he
  subst e1
  exact ⟨rfl, fun a ha => by cases ha⟩
theorem nO {a b : Mly} (ha : MOK a) (hb : MOK b) (hi : a.inp = b.inp) {B : Nat} (hB : a.nx.length * b.nx.length ≤ B) : ∀ (f i : Nat) (l : List S3), WFS a b l → ∀ w, srS a b f i l = some w → w.length ≤ B + 1
  | 0, _, _, _, w, h => by cases h
  | f + 1, i, l, hl, w, h => by
    simp only [srS] at h
    split at h
    · rename_i hil
      have h1 := hl.wl hil
      have h2 := hl.le
      have h3 := ha.i1
      split at h
      · simp only [Option.some.injEq] at h; subst h
        rw [List.length_append]; simp only [List.length_cons, List.length_nil]; omega
      · exact nO ha hb hi hB f (i + 1) _ (hl.row ha hb hi hil a.inp.toNat (by omega)) w h
    · cases h
theorem sL (m : Mly) (e : S2) (c : Nat) (w : List Int) (he : AGW m e) : (m.go m.st (e.2 ++ [(c : Int)] ++ w)).2 = (m.go m.st e.2).2 ++ (m.out e.1 c :: (m.go (m.nxt e.1 c) w).2) := by
  rw [List.append_assoc, j9, he.1]
  simp only [List.cons_append, List.nil_append]
  rw [di]
structure SHW (m : Mly) (cl : List Int) (u v : List Int) : Prop where
  su : SYM m.inp u
  sv : SYM m.inp v
  lu : u.length ≤ 200
  lv : v.length = u.length
  pos : 0 < u.length
  ne : (m.go m.st u).2 ≠ (m.go m.st v).2
  im : u.map (fun a => cl.getD a.toNat 0) = v.map fun a => cl.getD a.toNat 0
theorem shw {m : Mly} {cl : List Int} {p : Nat × Nat × Nat} (hk : COK m cl) (hs : m.nx.length ≤ 12) (hf : cZ m cl = some p) : SHW m cl ((m.exR.getD p.1 eX0).2 ++ [(p.2.1 : Int)] ++ wTl m p) ((m.exR.getD p.1 eX0).2 ++ [(p.2.2 : Int)] ++ wTl m p) := by
  have hm := hk.ok; have hlen := hk.len
  obtain ⟨⟨p1, p2, p3⟩, p4, p5⟩ := jn hf
  have hwx := iy hm
  have hat := hwx.at_ p1
  have hwl := hwx.wl _ (kz p1)
  have hxl := hwx.le
  have hag := uY hm _ (kz p1)
  have hnc := hm.nr (m.exR.getD p.1 eX0).1.toNat p.2.1 (by omega) (by omega)
  have hnd := hm.nr (m.exR.getD p.1 eX0).1.toNat p.2.2 (by omega) (by omega)
  have hcl : cl.getD p.2.1 0 = cl.getD p.2.2 0 := by
    unfold fL at p5; simp only [Bool.and_eq_true, decide_eq_true_eq] at p5; exact p5.1
  have hna : i3 m (m.exR.getD p.1 eX0).1 p.2.1 p.2.2 = false := by
    unfold fL at p5; simp only [Bool.and_eq_true, Bool.not_eq_true', decide_eq_true_eq] at p5; exact p5.2
  have hT : SYM m.inp (wTl m p) ∧ (wTl m p).length ≤ 145 ∧ (m.out (m.exR.getD p.1 eX0).1 p.2.1 :: (m.go (m.nxt (m.exR.getD p.1 eX0).1 p.2.1) (wTl m p)).2) ≠ (m.out (m.exR.getD p.1 eX0).1 p.2.2 :: (m.go (m.nxt (m.exR.getD p.1 eX0).1 p.2.2) (wTl m p)).2) := by
    by_cases hO : m.out (m.exR.getD p.1 eX0).1 p.2.1 = m.out (m.exR.getD p.1 eX0).1 p.2.2
    · have e : wTl m p = (seS m m (m.nxt (m.exR.getD p.1 eX0).1 p.2.1) (m.nxt (m.exR.getD p.1 eX0).1 p.2.2)).getD [] := if_pos hO
      have hi := vN hm hnc hnd
      have hne : ¬ m.eqc.getD (m.nxt (m.exR.getD p.1 eX0).1 p.2.1).toNat 0 = m.eqc.getD (m.nxt (m.exR.getD p.1 eX0).1 p.2.2).toNat 0 := by
        intro hh
        have := i7.2 ⟨hO, hh⟩
        rw [hna] at this; cases this
      have hso : (seS m m (m.nxt (m.exR.getD p.1 eX0).1 p.2.1) (m.nxt (m.exR.getD p.1 eX0).1 p.2.2)).isSome = true := by
        refine hi.trans ?_
        rw [show decide (m.eqc.getD ((m.nx.getD (m.exR.getD p.1 eX0).1.toNat []).getD p.2.1 0).toNat 0 = m.eqc.getD ((m.nx.getD (m.exR.getD p.1 eX0).1.toNat []).getD p.2.2 0).toNat 0) = false from decide_eq_false hne]; rfl
      obtain ⟨w, hw⟩ := Option.isSome_iff_exists.1 hso
      rw [e, hw]
      obtain ⟨w1, w2, w3⟩ := ji hw
      refine ⟨wm w1, nO (B := 144) hm hm rfl (Nat.le_trans (Nat.mul_le_mul hs hs) (by omega)) _ _ _ (jZ hnc hnd) w hw, fun hh => w2 ?_⟩
      injection hh
    · have e : wTl m p = [] := if_neg hO
      rw [e]
      refine ⟨fun a ha => (by cases ha), Nat.zero_le _, fun hh => hO ?_⟩
      injection hh
  refine ⟨ij (ij hag.2 (mX (by omega))) hT.1, ij (ij hag.2 (mX (by omega))) hT.1, ?_, ?_, ?_, ?_, ?_⟩
  · simp only [List.length_append, List.length_cons, List.length_nil]; omega
  · simp only [List.length_append, List.length_cons, List.length_nil]
  · simp only [List.length_append, List.length_cons, List.length_nil]; omega
  · rw [sL m _ _ _ hag, sL m _ _ _ hag]
    intro hh
    exact hT.2.2 (List.append_cancel_left hh)
  · simp only [List.map_append, List.map_cons, List.map_nil, Int.toNat_natCast, hcl]
theorem wG {m : Mly} {cl : List Int} (hc : bE m cl = 0) (hb : eg m cl = true) (hs : m.nx.length ≤ 12) : SHW m cl (wU m cl) (wV m cl) := by
  have hk := fx hc
  unfold eg at hb
  rw [if_pos hc] at hb
  obtain ⟨p, hp⟩ := Option.isSome_iff_exists.1 hb
  unfold wU wV
  rw [if_pos hc, if_pos hc, hp]
  exact shw hk hs hp
theorem lC {n i : Nat} : (List.replicate n (0 : Int)).getD i 0 = 0 := by
  by_cases h : i < n
  · simp [List.getD, h]
  · simp [List.getD, Nat.le_of_not_lt h]
end Go.AV
namespace Go.AV
open Nat renaming reduceEqDiff → J, reduceAdd → E, reduceLeDiff → U, reduceLT → Z, reduceMul → V, reduceSub → Y
open List renaming set_cons_zero → aw, set_cons_succ → au
/-plain-/
structure RUN (m : Mly) : Prop where
  len : (fR m).length = m.inp.toNat
  ce : df (fR m) = 0
  ck : fV (fR m) = lM m
  eq : ∀ c d : Nat, c < m.inp.toNat → d < m.inp.toNat → ((fR m).getD c 0 = (fR m).getD d 0 ↔ o5 m c d = true)
  ch : bE m (fR m) = 0
  no : eg m (fR m) = false
end Go.AV
namespace Go.AV
open Nat renaming reduceEqDiff → J, reduceAdd → E, reduceLeDiff → U, reduceLT → Z, reduceMul → V, reduceSub → Y
open List renaming set_cons_zero → aw, set_cons_succ → au
/-plain-/
/-! ### repeating Step: every step divides a class, and the end is the list of Run -/
theorem r8 {cl : List Int} (hb : ∀ q, q < cl.length → dz cl q = false) : ∀ k, k ≤ cl.length → ∀ v, 0 ≤ v → v < cN cl k → ∃ q, q < k ∧ cl.getD q 0 = v
  | 0, _, v, h0, h1 => by simp only [cN] at h1; omega
  | k + 1, hk, v, h0, h1 => by
    have h2 := hb k (by omega)
    simp only [dz, Bool.or_eq_false_iff, decide_eq_false_iff_not] at h2
    simp only [cN] at h1
    by_cases e : v < cN cl k
    · obtain ⟨q, q1, q2⟩ := r8 hb k (by omega) v h0 e
      exact ⟨q, by omega, q2⟩
    · exact ⟨k, by omega, by omega⟩
theorem v4 (cl : List Int) : ∀ k q, q < k → cl.getD q 0 < cN cl k
  | 0, q, h => by omega
  | k + 1, q, h => by
    simp only [cN]
    by_cases e : q = k
    · rw [e]; omega
    · have := v4 cl k q (by omega); omega
theorem pw (cl : List Int) : ∀ k, 0 ≤ cN cl k
  | 0 => Int.le_refl _
  | k + 1 => by have := pw cl k; simp only [cN]; omega
structure STD (m : Mly) (C : List Int) (j : Nat) : Prop where
  len : C.length = m.inp.toNat
  ce : df C = 0
  co : ∀ c d : Nat, c < m.inp.toNat → d < m.inp.toNat → o5 m c d = true → C.getD c 0 = C.getD d 0
  ct : (j : Int) + 1 ≤ fV C
theorem sn {m : Mly} {cl : List Int} (h : cZ m cl = none) {i c d : Nat} (hi : i < m.exR.length) (hcd : c < d) (hd : d < cl.length) : fL m cl (m.exR.getD i eX0).1 c d = false := by
  unfold cZ at h
  have h1 := List.findSome?_eq_none_iff.1 h i (by simpa using hi)
  have h2 : kU m cl (m.exR.getD i eX0).1 = none := by simpa using h1
  unfold kU at h2
  have h3 := List.findSome?_eq_none_iff.1 h2 c (by simp; omega)
  have h4 : ip m cl (m.exR.getD i eX0).1 c = none := by simpa using h3
  unfold ip at h4
  have h5 := List.find?_eq_none.1 h4 d (by simpa using hd)
  simpa [hcd] using h5
end Go.AV
namespace Go.AV
open Nat renaming reduceEqDiff → J, reduceAdd → E, reduceLeDiff → U, reduceLT → Z, reduceMul → V, reduceSub → Y
open List renaming set_cons_zero → aw, set_cons_succ → au
/-plain-/
/-! ### the machine over the classes of equivalent states -/
theorem mE (m : Mly) (cl : List Int) : ∀ k, k ≤ m.nx.length → cN (m.nextL cl) k = ((cY (m.sig cl) k).length : Int) ∧ ∀ q, q < k → dz (m.nextL cl) q = false
  | 0, _ => ⟨by simp [cN, cY], fun q h => by omega⟩
  | k + 1, h => by
    obtain ⟨i1, i2⟩ := mE m cl k (by omega)
    have hv := iP (cl := cl) (s := k) (by omega : k < m.nx.length)
    by_cases hs : m.sig cl k ∈ cY (m.sig cl) k
    · have h1 := kJ (cl := cl) (by omega : k < m.nx.length) hs
      have h2 := ph hs
      rw [h1] at hv
      refine ⟨?_, fun q hq => ?_⟩
      · rw [dk, fh hs]; simp only [cN]; omega
      · by_cases e : q = k
        · subst e; exact iz (by omega) (by omega)
        · exact i2 q (by omega)
    · have h1 := ku (cl := cl) (by omega : k < m.nx.length) hs
      rw [h1] at hv
      refine ⟨?_, fun q hq => ?_⟩
      · rw [dk, eJ hs, List.length_append]; simp only [cN, List.length_cons, List.length_nil]; omega
      · by_cases e : q = k
        · subst e; exact iz (by omega) (by omega)
        · exact i2 q (by omega)
theorem gu {m : Mly} (hm : MOK m) : ∀ q, q < m.eqc.length → dz m.eqc q = false := by
  obtain ⟨j, h1, h2, h3⟩ := kl hm
  rw [h1, mc]
  cases j with
  | zero => exact fun q hq => iz (by show 0 ≤ (List.replicate _ (0 : Int)).getD q 0; rw [lC]; omega) (by show (List.replicate _ (0 : Int)).getD q 0 ≤ _; rw [lC]; exact pw _ _)
  | succ i => exact (mE m (m.cls i) m.nx.length (Nat.le_refl _)).2
def ep (c : List Int) (k : Nat) : List Nat := (List.range k).filter fun s => decide (c.getD s 0 = cN c s)
theorem oE {c : List Int} {k : Nat} (h : c.getD k 0 = cN c k) : ep c (k + 1) = ep c k ++ [k] := by
  unfold ep; rw [List.range_succ, List.filter_append]; simp only [List.filter_cons, List.filter_nil, h, decide_true, if_true]
theorem nM {c : List Int} {k : Nat} (h : ¬ c.getD k 0 = cN c k) : ep c (k + 1) = ep c k := by
  unfold ep; rw [List.range_succ, List.filter_append]; simp only [List.filter_cons, List.filter_nil, decide_eq_false h, Bool.false_eq_true, if_false, List.append_nil]
structure REP (c : List Int) (k : Nat) : Prop where
  len : ((ep c k).length : Int) = cN c k
  at_ : ∀ r, r < (ep c k).length → (ep c k).getD r 0 < k ∧ c.getD ((ep c k).getD r 0) 0 = r
theorem qV {xs ys : List Nat} {i : Nat} (h : i < xs.length) : (xs ++ ys).getD i 0 = xs.getD i 0 := by simp [List.getD, List.getElem?_append_left h]
theorem sY {c : List Int} (hb : ∀ q, q < c.length → dz c q = false) : ∀ k, k ≤ c.length → REP c k
  | 0, _ => ⟨rfl, fun r h => by simp [ep] at h⟩
  | k + 1, h => by
    have ih := sY hb k (by omega)
    have h1 := hb k (by omega)
    simp only [dz, Bool.or_eq_false_iff, decide_eq_false_iff_not] at h1
    have hl := ih.len
    by_cases e : c.getD k 0 = cN c k
    · rw [show REP c (k + 1) = REP c (k + 1) from rfl]
      refine ⟨?_, fun r hr => ?_⟩
      · rw [oE e, List.length_append]; simp only [List.length_cons, List.length_nil, cN]; omega
      · rw [oE e] at hr ⊢
        rw [List.length_append] at hr; simp only [List.length_cons, List.length_nil] at hr
        by_cases e2 : r = (ep c k).length
        · have : (ep c k ++ [k]).getD r 0 = k := by subst e2; simp [List.getD]
          rw [this]; exact ⟨by omega, by omega⟩
        · rw [qV (by omega)]
          have := ih.at_ r (by omega)
          exact ⟨by omega, this.2⟩
    · refine ⟨?_, fun r hr => ?_⟩
      · rw [nM e]; simp only [cN]; omega
      · rw [nM e] at hr ⊢
        have := ih.at_ r hr
        exact ⟨by omega, this.2⟩
def Mly.f (t : Mly) (x : Int) : Int := t.eqc.getD x.toNat 0
def Mly.reps (t : Mly) : List Nat := ep t.eqc t.nx.length
def Mly.qm (t : Mly) : Mly := ⟨t.inp, 0, t.reps.map (fun s => (t.nx.getD s []).map t.f), t.reps.map fun s => t.ot.getD s []⟩
theorem fO {t : Mly} (ht : MOK t) : REP t.eqc t.nx.length := by
  have hl := (dY ht).len
  have := sY (gu ht) t.nx.length (by omega)
  exact this
theorem pC (t : Mly) : t.qm.nx.length = t.reps.length := by simp [Mly.qm]
theorem ru {t : Mly} {r : Nat} (h : r < t.reps.length) : t.qm.nx.getD r [] = (t.nx.getD (t.reps.getD r 0) []).map t.f := by
  show (t.reps.map _).getD r [] = _
  rw [dI _ 0 _ h]
theorem sf {t : Mly} {r : Nat} (h : r < t.reps.length) : t.qm.ot.getD r [] = t.ot.getD (t.reps.getD r 0) [] := by
  show (t.reps.map _).getD r [] = _
  rw [dI _ 0 _ h]
theorem mB {t : Mly} (ht : MOK t) {s : Int} (h0 : 0 ≤ s) (h1 : s < t.nx.length) : 0 ≤ t.f s ∧ t.f s < t.reps.length := by
  have hl := (fO ht).len
  have := v4 t.eqc t.nx.length s.toNat (by omega)
  have h2 := (dY ht).rng s.toNat (by omega)
  unfold Mly.f Mly.reps
  omega
theorem xa {t : Mly} (ht : MOK t) {s : Int} (h0 : 0 ≤ s) (h1 : s < t.nx.length) : t.reps.getD (t.f s).toNat 0 < t.nx.length ∧ t.f (t.reps.getD (t.f s).toNat 0 : Nat) = t.f s := by
  have hf := mB ht h0 h1
  have := (fO ht).at_ (t.f s).toNat (by have := hf.2; unfold Mly.reps at this; omega)
  refine ⟨this.1, ?_⟩
  show t.eqc.getD ((t.reps.getD (t.f s).toNat 0 : Nat) : Int).toNat 0 = _
  rw [Int.toNat_natCast]
  have h2 := this.2
  unfold Mly.reps
  rw [h2]; omega
theorem uN {t : Mly} (ht : MOK t) : MOK t.qm := by
  have hq := pC t
  have hr := fO ht
  have hn1 := ht.n1; have hn2 := ht.n2
  have h0 := mB ht (s := 0) (by omega) (by omega)
  have hle : t.reps.length ≤ t.nx.length := by
    unfold Mly.reps ep
    exact Nat.le_trans (List.length_filter_le _ _) (by simp)
  have hol : t.qm.ot.length = t.reps.length := by simp [Mly.qm]
  have hat : ∀ r, r < t.reps.length → t.reps.getD r 0 < t.nx.length := fun r h => (hr.at_ r h).1
  refine ⟨ht.i1, ht.i2, by omega, by omega, Int.le_refl 0, by show (0 : Int) < _; omega, by omega, fun s hs => ?_, fun s hs => ?_, fun s a hs ha => ?_, fun s a hs ha => ?_⟩
  · rw [ru (by omega), List.length_map]
    exact ht.rl _ (hat s (by omega))
  · rw [sf (by omega)]
    exact ht.ql _ (hat s (by omega))
  · have ha' : (a : Int) < t.inp := ha
    have h1 := ht.rl _ (hat s (by omega))
    rw [ru (by omega), dI t.f 0 0 (by omega)]
    have h2 := ht.nr _ a (hat s (by omega)) ha'
    have := mB ht h2.1 h2.2
    omega
  · rw [sf (by omega)]
    exact ht.or _ a (hat s (by omega)) ha
/-- One step of both. -/
theorem sO {t : Mly} (ht : MOK t) {s a : Int} (h0 : 0 ≤ s) (h1 : s < t.nx.length) (ha : 0 ≤ a ∧ a < t.inp) : t.qm.out (t.f s) a = t.out s a ∧ t.qm.nxt (t.f s) a = t.f (t.nxt s a) := by
  have hf := mB ht h0 h1
  obtain ⟨r1, r2⟩ := xa ht h0 h1
  have e : t.eqc.getD (t.reps.getD (t.f s).toNat 0) 0 = t.eqc.getD s.toNat 0 := by
    have := r2
    unfold Mly.f at this
    rw [Int.toNat_natCast] at this
    exact this
  have hst := (dY ht).step _ s.toNat r1 (by omega) e a.toNat (by omega)
  have hrl := ht.rl _ r1
  constructor
  · show (t.qm.ot.getD (t.f s).toNat []).getD a.toNat 0 = _
    rw [sf (by omega), hst.1]; rfl
  · show (t.qm.nx.getD (t.f s).toNat []).getD a.toNat 0 = _
    rw [ru (by omega), dI t.f 0 0 (by omega)]
    exact hst.2
theorem tp {t : Mly} (ht : MOK t) : ∀ (w : List Int) (s : Int), 0 ≤ s → s < t.nx.length → (∀ i : Nat, i < w.length → 0 ≤ w.getD i 0 ∧ w.getD i 0 < t.inp) → (t.qm.go (t.f s) w).2 = (t.go s w).2
  | [], s, _, _, _ => rfl
  | a :: w, s, h0, h1, hw => by
    obtain ⟨ha, hw2⟩ := ja hw
    obtain ⟨e1, e2⟩ := sO ht h0 h1 ha
    rw [di, di, e1, e2]
    have hn := ht.nr s.toNat a.toNat (by omega) (by omega)
    have := tp ht w (t.nxt s a) hn.1 hn.2 hw2
    rw [this]
theorem xi {t : Mly} (ht : MOK t) : ∀ i j : Int, 0 ≤ i → i < t.qm.nx.length → 0 ≤ j → j < t.qm.nx.length → EQV t.qm i j → i = j := by
  intro i j i0 i1 j0 j1 h
  have hq := pC t
  have ri := (fO ht).at_ i.toNat (by unfold Mly.reps at hq; omega)
  have rj := (fO ht).at_ j.toNat (by unfold Mly.reps at hq; omega)
  have fi : t.f (((ep t.eqc t.nx.length).getD i.toNat 0 : Nat) : Int) = i := by unfold Mly.f; rw [Int.toNat_natCast, ri.2]; omega
  have fj : t.f (((ep t.eqc t.nx.length).getD j.toNat 0 : Nat) : Int) = j := by unfold Mly.f; rw [Int.toNat_natCast, rj.2]; omega
  have hv : EQV t (((ep t.eqc t.nx.length).getD i.toNat 0 : Nat) : Int) (((ep t.eqc t.nx.length).getD j.toNat 0 : Nat) : Int) := fun w hw => by
    have g1 := tp ht w (((ep t.eqc t.nx.length).getD i.toNat 0 : Nat) : Int) (Int.natCast_nonneg _) (by have := ri.1; omega) hw
    have g2 := tp ht w (((ep t.eqc t.nx.length).getD j.toNat 0 : Nat) : Int) (Int.natCast_nonneg _) (by have := rj.1; omega) hw
    rw [fi] at g1; rw [fj] at g2
    rw [← g1, ← g2]
    exact h w hw
  have := (me ht (Int.natCast_nonneg _) (by have := ri.1; omega) (Int.natCast_nonneg _) (by have := rj.1; omega)).2 hv
  rw [← fi, ← fj]; exact this
end Go.AV
namespace Go.AV
open Nat renaming reduceEqDiff → J, reduceAdd → E, reduceLeDiff → U, reduceLT → Z, reduceMul → V, reduceSub → Y
open List renaming set_cons_zero → aw, set_cons_succ → au
/-plain-/
/-! ### the document's Step -/
theorem x7 {xs ys : List Int} (h : xs.length = ys.length) (h2 : ∀ i, i < xs.length → xs.getD i 0 = ys.getD i 0) : xs = ys := by
  refine List.ext_getElem h fun i h1 h3 => ?_
  have := h2 i h1
  simpa [List.getD, h1, h3] using this
end Go.AV
namespace Go.AV
open Nat renaming reduceEqDiff → J, reduceAdd → E, reduceLeDiff → U, reduceLT → Z, reduceMul → V, reduceSub → Y
open List renaming set_cons_zero → aw, set_cons_succ → au
/-plain-/
/-! ### the machine over the classes is numbered in the order of its access words -/
def dd (f : Int → Int) (l : List Int) : List Int := (l.map f).foldl cw []
theorem sV (f : Int → Int) (l : List Int) (x : Int) : dd f (l ++ [x]) = cw (dd f l) (f x) := by
  unfold dd; rw [List.map_append, List.foldl_append]; rfl
theorem sJ {f : Int → Int} {l : List Int} {y : Int} : y ∈ dd f l ↔ ∃ x, x ∈ l ∧ f x = y := by
  unfold dd; rw [fJ, List.mem_map]; simp
theorem qS (f : Int → Int) : ∀ (r l : List Int), (r.map f).foldl cw (dd f l) = dd f (r.foldl cw l)
  | [], _ => rfl
  | x :: r, l => by
    rw [List.map_cons, List.foldl_cons, List.foldl_cons, ← qS f r (cw l x)]
    congr 1
    by_cases h : x ∈ l
    · rw [fc h, fc (sJ.2 ⟨x, h, rfl⟩)]
    · rw [ef h, sV]
theorem qH : ∀ (r l : List Int), (∀ x, x ∈ r → x ∈ l) → r.foldl cw l = l
  | [], _, _ => rfl
  | x :: r, l, h => by
    rw [List.foldl_cons, fc (h x (by simp))]
    exact qH r l fun y hy => h y (by simp [hy])
theorem jE (c : List Int) {a : Nat} : ∀ {b : Nat}, a ≤ b → cN c a ≤ cN c b
  | 0, h => by
    have : a = 0 := by omega
    subst this; exact Int.le_refl _
  | b + 1, h => by
    by_cases e : a = b + 1
    · subst e; exact Int.le_refl _
    · have := jE c (a := a) (b := b) (by omega)
      simp only [cN]; omega
theorem oN {t : Mly} (ht : MOK t) : ∀ k, k ≤ t.nx.length → dd t.f (rgI k) = rgI (cN t.eqc k).toNat
  | 0, _ => rfl
  | k + 1, h => by
    have hl := (dY ht).len
    have h1 := gu ht k (by omega)
    simp only [dz, Bool.or_eq_false_iff, decide_eq_false_iff_not] at h1
    have hn := pw t.eqc k
    have hf : t.f (k : Int) = t.eqc.getD k 0 := by unfold Mly.f; rw [Int.toNat_natCast]
    rw [o7, sV, oN ht k (by omega), hf]
    by_cases e : t.eqc.getD k 0 = cN t.eqc k
    · rw [ef (fun hm => by have := lO.1 hm; omega), show (cN t.eqc (k + 1)).toNat = (cN t.eqc k).toNat + 1 by simp only [cN]; omega, o7, e, Int.toNat_of_nonneg hn]
    · rw [fc (lO.2 ⟨by omega, by omega⟩), show (cN t.eqc (k + 1)).toNat = (cN t.eqc k).toNat by simp only [cN]; omega]
theorem ny {t : Mly} (ht : MOK t) {s : Int} (h0 : 0 ≤ s) (h1 : s < t.nx.length) : t.qm.row (t.f s) = (t.row s).map t.f := by
  have hf := mB ht h0 h1
  have hq := pC t
  have hi1 := ht.i1
  have r1 : ((t.qm.row (t.f s)).length : Int) = t.inp := (uN ht).rl (t.f s).toNat (by omega)
  have r2 : ((t.row s).length : Int) = t.inp := ht.rl s.toNat (by omega)
  refine x7 (by rw [List.length_map]; omega) fun a ha => ?_
  rw [dI t.f 0 0 (by omega)]
  have := (sO ht h0 h1 (a := (a : Int)) ⟨by omega, by omega⟩).2
  exact this
theorem vy {t : Mly} (ht : MOK t) (hr : t.reach = rgI t.nx.length) : ∀ (g i : Nat) (L : List Int), t.nx.length < g + i → t.rf g i L = t.reach → L = rgI L.length → L.length ≤ t.nx.length → i ≤ L.length →
    (∀ j : Nat, j < i → ∀ x, x ∈ t.row j → x ∈ L) → ∀ F, t.reps.length < F + (cN t.eqc i).toNat → t.qm.rf F (cN t.eqc i).toNat (dd t.f L) = dd t.f t.reach
  | 0, i, L, hg, _, _, hL, hi, _, F, _ => by omega
  | g + 1, i, L, hg, hrf, hp, hL, hi, hcl, F, hF => by
    have hlen := (dY ht).len
    have hK := (fO ht).len
    have hnn := pw t.eqc i
    have hdd : dd t.f L = rgI (cN t.eqc L.length).toNat := by
      have := oN ht L.length hL
      rwa [← hp] at this
    by_cases hil : i < L.length
    · have hLi : L.getD i 0 = (i : Int) := by rw [hp]; exact lH hil
      rw [fP t g i L hil, hLi] at hrf
      have hmi : (i : Int) ∈ L := by rw [← hLi]; exact cU hil
      have h1 := gu ht i (by omega)
      simp only [dz, Bool.or_eq_false_iff, decide_eq_false_iff_not] at h1
      have hm1 := jE t.eqc (a := i + 1) (b := L.length) (by omega)
      have hm2 := jE t.eqc (a := i) (b := t.nx.length) (by omega)
      have hpre : ∃ k, (t.row i).foldl cw L ++ k = rgI t.nx.length := by
        obtain ⟨k, e⟩ := iK t g (i + 1) ((t.row i).foldl cw L)
        exact ⟨k, by rw [← e, hrf, hr]⟩
      obtain ⟨k, hk⟩ := hpre
      have hp2 := mu hk
      have hL2 : ((t.row i).foldl cw L).length ≤ t.nx.length := by
        have := congrArg List.length hk
        rw [List.length_append, ff] at this; omega
      have hge := oI (t.row i) L
      have hcl2 : ∀ j : Nat, j < i + 1 → ∀ x, x ∈ t.row j → x ∈ (t.row i).foldl cw L := fun j hj x hx => by
        by_cases e : j = i
        · subst e; exact fJ.2 (.inr hx)
        · exact fJ.2 (.inl (hcl j (by omega) x hx))
      have hfi : t.f (i : Int) = t.eqc.getD i 0 := by unfold Mly.f; rw [Int.toNat_natCast]
      have hfold := qS t.f (t.row i) L
      by_cases e : t.eqc.getD i 0 = cN t.eqc i
      · have ec : (cN t.eqc (i + 1)).toNat = (cN t.eqc i).toNat + 1 := by simp only [cN]; omega
        have hKb : (cN t.eqc i).toNat < t.reps.length := by
          have := jE t.eqc (a := i + 1) (b := t.nx.length) (by omega)
          unfold Mly.reps; omega
        obtain ⟨F2, rfl⟩ : ∃ F2, F = F2 + 1 := ⟨F - 1, by omega⟩
        have hlt : (cN t.eqc i).toNat < (dd t.f L).length := by rw [hdd, ff]; omega
        rw [fP t.qm F2 _ _ hlt]
        have hat : (dd t.f L).getD (cN t.eqc i).toNat 0 = t.f (i : Int) := by
          rw [hdd, lH (by rw [hdd, ff] at hlt; exact hlt), hfi]; omega
        rw [hat, ny ht (by omega) (by omega), hfold, ← ec]
        exact vy ht hr g (i + 1) _ (by omega) hrf hp2 hL2 (by omega) hcl2 F2 (by omega)
      · have ec : (cN t.eqc (i + 1)).toNat = (cN t.eqc i).toNat := by simp only [cN]; omega
        obtain ⟨q, q1, q2⟩ := r8 (gu ht) i (by omega) (t.eqc.getD i 0) (by omega) (by omega)
        have hfq : t.f (q : Int) = t.f (i : Int) := by rw [hfi, ← q2]; unfold Mly.f; rw [Int.toNat_natCast]
        have hrow : (t.row i).map t.f = (t.row q).map t.f := by
          rw [← ny ht (by omega) (by omega), ← ny ht (by omega) (by omega), hfq]
        have hin : ((t.row i).map t.f).foldl cw (dd t.f L) = dd t.f L := qH _ _ fun y hy => by
          rw [hrow, List.mem_map] at hy
          obtain ⟨x, hx, rfl⟩ := hy
          exact sJ.2 ⟨x, hcl q q1 x hx, rfl⟩
        rw [hfold] at hin
        rw [← hin, ← ec]
        exact vy ht hr g (i + 1) _ (by omega) hrf hp2 hL2 (by omega) hcl2 F (by omega)
    · have hie : i = L.length := by omega
      rw [eZ t _ _ _ (by omega)] at hrf
      rw [eZ t.qm _ _ _ (by rw [hdd, ff, hie]; exact Nat.le_refl _), ← hrf]
theorem x3 {t : Mly} (ht : MOK t) (hs : t.st = 0) (hr : t.reach = rgI t.nx.length) : CAN t.qm := by
  have hlen := (dY ht).len
  have hn1 := ht.n1
  have hK := (fO ht).len
  refine ⟨uN ht, rfl, ?_, xi ht⟩
  have h0 := gu ht 0 (by omega)
  simp only [dz, Bool.or_eq_false_iff, decide_eq_false_iff_not] at h0
  have hz0 : cN t.eqc 0 = 0 := rfl
  have hf0 : t.f 0 = 0 := by unfold Mly.f; show t.eqc.getD 0 0 = 0; omega
  have hd0 : dd t.f [0] = [0] := by show cw [] (t.f 0) = _; rw [hf0]; rfl
  have hrf : t.rf (t.nx.length + 1) 0 [0] = t.reach := by rw [dq (cI ht), hs]
  have := vy ht hr (t.nx.length + 1) 0 [0] (by omega) hrf rfl (by simpa using hn1) (by simp) (fun j hj => by omega) (t.reps.length + 1) (by simp only [cN]; omega)
  rw [hd0] at this
  rw [dq (cI (uN ht)), pC]
  show t.qm.rf (t.reps.length + 1) 0 [0] = _
  rw [show (cN t.eqc 0).toNat = 0 from rfl] at this
  rw [this, hr, oN ht _ (Nat.le_refl _)]
  congr 1
  unfold Mly.reps; omega
/-- The minimal machine. -/
def Mly.minm (m : Mly) : Mly := m.T.qm
theorem pY {m : Mly} (hm : MOK m) : CAN m.minm := x3 (t6 hm) rfl (by rw [ut hm, sD]; rfl)
theorem lG {m : Mly} (hm : MOK m) (w : List Int) (hw : ∀ i : Nat, i < w.length → 0 ≤ w.getD i 0 ∧ w.getD i 0 < m.inp) : (m.minm.go 0 w).2 = (m.go m.st w).2 := by
  have ht := t6 hm
  have hn := ht.n1
  have hlen := (dY ht).len
  have h0 := gu ht 0 (by omega)
  simp only [dz, Bool.or_eq_false_iff, decide_eq_false_iff_not] at h0
  have hz0 : cN m.T.eqc 0 = 0 := rfl
  have hf0 : m.T.f 0 = 0 := by unfold Mly.f; show m.T.eqc.getD 0 0 = 0; omega
  have h1 := tp ht w 0 (by omega) (by omega) hw
  rw [hf0] at h1
  obtain ⟨k, hk⟩ := gl hm
  have h2 := (xg hm (s := m.st) (by rw [hk]; simp) w hw).2.2
  rw [vS hm] at h2
  exact h1.trans h2
theorem wJ {a b : Mly} (ha : MOK a) (hb : MOK b) (hi : a.inp = b.inp) : EQ2 a b a.st b.st ↔ EQ2 a.minm b.minm 0 0 := by
  constructor
  · intro h w hw
    rw [lG ha w hw, lG hb w (by rw [← hi]; exact hw)]; exact h w hw
  · intro h w hw
    rw [← lG ha w hw, ← lG hb w (by rw [← hi]; exact hw)]; exact h w hw
theorem ud {a b : Mly} (ha : MOK a) (hb : MOK b) (hi : a.inp = b.inp) : EQ2 a b a.st b.st ↔ a.minm = b.minm := by
  rw [wJ ha hb hi]
  constructor
  · intro h
    obtain ⟨e1, e2⟩ := wt (pY ha) (pY hb) hi h
    show (⟨a.inp, 0, a.minm.nx, a.minm.ot⟩ : Mly) = ⟨b.inp, 0, b.minm.nx, b.minm.ot⟩
    rw [hi, e1, e2]
  · intro h w _
    rw [h]
end Go.AV
namespace Go.AV
open Nat renaming reduceEqDiff → J, reduceAdd → E, reduceLeDiff → U, reduceLT → Z, reduceMul → V, reduceSub → Y
open List renaming set_cons_zero → aw, set_cons_succ → au
/-plain-/
/-! The minimal machine (min_same) as the loop lays it. -/
/-- The error of two machines. -/
def uU (a b : Mly) : Int := if bj a = 0 then if bj b = 0 then if a.inp = b.inp then 0 else 15 else bj b else bj a
def dqW (a b : Mly) : Option (List Int) := if uU a b = 0 then seS a b a.st b.st else none
def eqQ (a b : Mly) : Bool := decide (uU a b = 0) && !(dqW a b).isSome
end Go.AV
namespace Go.AV
open Nat renaming reduceEqDiff → J, reduceAdd → E, reduceLeDiff → U, reduceLT → Z, reduceMul → V, reduceSub → Y
open List renaming set_cons_zero → aw, set_cons_succ → au
/-plain-/
/-! Minimal machines. -/
theorem uh {a : Mly} (ha : MOK a) : a.st ∈ a.reach := by obtain ⟨k, hk⟩ := gl ha; rw [hk]; simp
theorem rP {a : Mly} (ha : MOK a) {s c : Int} (hs : s ∈ a.reach) (hc : 0 ≤ c ∧ c < a.inp) : a.nxt s c ∈ a.reach := by
  have hR := (eF ha).rng s hs
  have hrl := ha.rl s.toNat (by omega)
  exact er ha hs (cU (w := a.row s) (i := c.toNat) (by show c.toNat < (a.nx.getD s.toNat []).length; omega))
structure EQM (x y : Mly) : Prop where
  chq : uU x y = 0
  eq : eqQ x y = true
end Go.AV
namespace Go.AV
open Nat renaming reduceEqDiff → J, reduceAdd → E, reduceLeDiff → U, reduceLT → Z, reduceMul → V, reduceSub → Y
open List renaming set_cons_zero → aw, set_cons_succ → au
/-plain-/
/-! On dmeqTh, dfmTh. -/
end Go.AV
namespace Go.AV
open Nat renaming reduceEqDiff → J, reduceAdd → E, reduceLeDiff → U, reduceLT → Z, reduceMul → V, reduceSub → Y
open List renaming set_cons_zero → aw, set_cons_succ → au
/-plain-/
/-! On dmeqTh, dfmTh, dselfTh. -/
theorem nG {n : Int} {w : List Int} (hn : 1 ≤ n ∧ n ≤ 1024) (hw : ic n w) (hl : w.length ≤ 1024) : d4 w n = 0 := u6 hn.1 hn.2 ⟨hl, qf hw⟩
theorem nI {n : Int} {w : List Int} (h : d4 w n = 0) : ic n w := vi (pl h).sym
/-! Combinations. -/
/-! Differences. -/
/-! Counting. -/
def cV (d : Dfa) (k : Nat) : Int := (sX d k).getD d.st.toNat 0
structure CNT (d : Dfa) (k : Nat) : Prop where
  e1 : cuE d k = 0
  e2 : cuE (coD d) k = 0
  v1 : cuV d k = cV d k
  x0 : 0 ≤ cuV d k
  y0 : 0 ≤ cuV (coD d) k
  sm : cuV d k + cuV (coD d) k = d.inp ^ k
  pb : d.inp ^ k ≤ 205891132094649
  pp : 1 ≤ d.inp ^ k
def vB (d : Dfa) (k : Nat) : Int := match (List.range k).find? (fun j => decide (0 < cV d j)) with | some j => (j : Int) | none => -1
/-- The shortest accepted word. -/
structure SHO (d : Dfa) (k : Nat) : Prop where
  yes : 0 ≤ vB d k → ur d = true ∧ ((ta d).length : Int) = vB d k
  no : ur d = false → vB d k < 0 ∧ ta d = []
  ac : ur d = true → acV d (ta d) = true ∧ acE d (ta d) = 0
/-! There and back. -/
structure TOM (d : Dfa) (M : Mly) : Prop where
  e : toE d = 0
  eq : M = ⟨d.inp, d.st, d.nx, d.om⟩
  ok : MOK M
structure TRP (d : Dfa) (acc : Bool) : Prop where
  fe : fmE (toM d) acc = 0
  tw : wL (fmD (toM d) acc) d = 0
  nd : xz (fmD (toM d) acc) d = false
end Go.AV
namespace Go.AV
open Nat renaming reduceEqDiff → J, reduceAdd → E, reduceLeDiff → U, reduceLT → Z, reduceMul → V, reduceSub → Y
open List renaming set_cons_zero → aw, set_cons_succ → au
/-plain-/
/-! On mapTh. -/
structure PCK (p : Mpr) (w : List Int) (s : Int) (k : Nat) : Prop where
  rg : 0 ≤ p.rn s ((coW p s w).take k) ∧ p.rn s ((coW p s w).take k) < p.nx.length
  can : (cnP p (w.drop k)).getD (p.rn s ((coW p s w).take k)).toNat false = true
/-! Rows of truth values. -/
/-! The table of first symbols. -/
end Go.AV
namespace Go.AV
open Nat renaming reduceEqDiff → J, reduceAdd → E, reduceLeDiff → U, reduceLT → Z, reduceMul → V, reduceSub → Y
open List renaming set_cons_zero → aw, set_cons_succ → au
/-plain-/
/-! The laws of mappers. On pmdTh, pcoTh, dlawTh. -/
theorem vq {p : Mpr} {w : List Int} (h : abE p w = 0) : POK p ∧ d4 w p.inp = 0 ∧ abV p w = p.im p.st w := by
  have hv : cP p = 0 := by
    unfold abE at h; split at h
    · omega
    · omega
  have hw : d4 w p.inp = 0 := by
    unfold abE at h; rw [if_neg (fun k => k hv)] at h; exact h
  exact ⟨pq hv, hw, (vD hv hw).2⟩
theorem sQ {p : Mpr} (hp : POK p) : ∀ (w : List Int) {s : Int}, (0 ≤ s ∧ s < p.nx.length) → ic p.inp w → ic p.ab (p.im s w)
  | [], _, _, _ => fun x hx => by cases hx
  | c :: w, s, hs, hw => by
    obtain ⟨h1, h2⟩ := gL.1 hw
    exact gL.2 ⟨hp.sx hs h1, sQ hp w (hp.tx hs h1) h2⟩
/-! Models. -/
theorem nc {m : Mly} {p : Mpr} : ∀ (f i : Nat), RIM m p i → (∃ j, RIM m p j ∧ goM m p f i = g8 p (bG m p j) ∧ (f + i = j ∨ ¬ j < (bG m p j).S.length)) ∨ ∃ j a r, RIM m p j ∧ j < (bG m p j).S.length ∧ a < p.ab.toNat ∧ (∀ b, b < a → cX m p j (bW m p j b) b = none) ∧ cX m p j (bW m p j a) a = some r ∧ goM m p f i = r
  | 0, i, h => .inl ⟨i, h, rfl, .inl (by omega)⟩
  | f + 1, i, h => by
    by_cases h1 : i < (bG m p i).S.length
    · cases h2 : (List.range p.ab.toNat).findSome? (fun a => cX m p i (bW m p i a) a) with
      | none =>
        have h3 : ∀ b, b < p.ab.toNat → cX m p i (bW m p i b) b = none := fun b hb => (List.findSome?_eq_none_iff.1 h2) b (List.mem_range.2 hb)
        have e : goM m p (f + 1) i = goM m p f (i + 1) := by
          show (if _ then _ else _) = _
          rw [if_pos h1, h2]
        rw [e]
        rcases nc f (i + 1) (kK h h1 h3) with ⟨j, g1, g2, g3⟩ | g
        · exact .inl ⟨j, g1, g2, g3.imp (fun q => by omega) id⟩
        · exact .inr g
      | some r =>
        have e : goM m p (f + 1) i = r := by
          show (if _ then _ else _) = _
          rw [if_pos h1, h2]
        refine .inr ?_
        -- the first column that fails
        have hx : ∃ a, a < p.ab.toNat ∧ (∀ b, b < a → cX m p i (bW m p i b) b = none) ∧ cX m p i (bW m p i a) a = some r := by
          clear e
          generalize p.ab.toNat = n at h2
          induction n with
          | zero => simp at h2
          | succ n ih =>
            rw [List.range_succ, List.findSome?_append] at h2
            cases h4 : (List.range n).findSome? (fun a => cX m p i (bW m p i a) a) with
            | some r2 =>
              rw [h4] at h2
              have h5 : some r2 = some r := h2
              obtain ⟨a, q1, q2, q3⟩ := ih (by rw [h4, h5])
              exact ⟨a, by omega, q2, q3⟩
            | none =>
              rw [h4] at h2
              refine ⟨n, by omega, fun b hb => (List.findSome?_eq_none_iff.1 h4) b (List.mem_range.2 hb), ?_⟩
              simpa using h2
        obtain ⟨a, q1, q2, q3⟩ := hx
        exact ⟨i, a, r, h, h1, q1, q2, q3, e⟩
    · exact .inl ⟨i, h, by show (if _ then _ else _) = _; rw [if_neg h1], .inr h1⟩
theorem vj {m : Mly} {p : Mpr} (h : gF m p = 0) : MOK m ∧ POK p ∧ m.inp = p.inp := by
  unfold gF at h
  split at h
  · omega
  · split at h
    · omega
    · split at h
      · omega
      · exact ⟨fX (by omega), pq (by omega), by omega⟩
/-- A model, a clash or an error. -/
theorem mF (m : Mly) (p : Mpr) : (∃ e, ¬ e = 0 ∧ mdl m p = jC e) ∨ (MOK m ∧ POK p ∧ m.inp = p.inp ∧ ((∃ i, RIM m p i ∧ (bG m p i).S.length = i ∧ 0 < i ∧ mdl m p = g8 p (bG m p i)) ∨
    ∃ i a, RIM m p i ∧ i < (bG m p i).S.length ∧ a < p.ab.toNat ∧ 1 < (aO m p (cxM (bW m p i a) i) a).length ∧ mdl m p = ⟨p7, cwM (bW m p i a) i a, (aO m p (cxM (bW m p i a) i) a).getD 0 0, (aO m p (cxM (bW m p i a) i) a).getD 1 0, false, 0⟩)) := by
  by_cases h : gF m p = 0
  · obtain ⟨hm, hp, hi⟩ := vj h
    have e : mdl m p = goM m p 129 0 := if_pos h
    rcases nc (m := m) (p := p) 129 0 (fun j hj => by omega) with ⟨j, g1, g2, g3⟩ | ⟨j, a, r, g1, g2, g3, g4, g5, g6⟩
    · refine .inr ⟨hm, hp, hi, .inl ⟨j, g1, ?_, ?_, by rw [e, g2]⟩⟩
      · have h1 := iO hm hp hi g1
        have h2 : ¬ j < (bG m p j).S.length := by
          rcases g3 with g3 | g3
          · omega
          · exact g3
        match j, g1, h2 with
        | 0, _, h2 => exact absurd (show 0 < 1 by omega) h2
        | j + 1, g1, h2 =>
          have h3 := (g1 j (by omega)).1
          have h4 := fl (m := m) (p := p) (i := j) p.ab.toNat
          have h5 : (bG m p (j + 1)).S = (bW m p j p.ab.toNat).S := rfl
          rw [h5] at h2 ⊢
          omega
      · match j, g3 with
        | 0, g3 => rcases g3 with g3 | g3
                   · omega
                   · exact absurd (show 0 < 1 by omega) g3
        | j + 1, _ => omega
    · unfold cX at g5
      split at g5
      · rename_i h1
        exact .inr ⟨hm, hp, hi, .inr ⟨j, a, g1, g2, g3, h1, by rw [e, g6]; exact (Option.some.inj g5).symm⟩⟩
      · split at g5
        · exact .inl ⟨2, by omega, by rw [e, g6]; exact (Option.some.inj g5).symm⟩
        · split at g5
          · exact .inl ⟨11, by omega, by rw [e, g6]; exact (Option.some.inj g5).symm⟩
          · cases g5
  · exact .inl ⟨gF m p, h, if_neg h⟩
/-! The words. -/
theorem x8 {m : Mly} {p : Mpr} (hm : MOK m) (hp : POK p) (hi : m.inp = p.inp) {xs : List Int} (h : SB m p xs) (a : Int) : ∀ y ∈ oA m p xs a, 0 ≤ y := fun y hy => by
  unfold oA at hy
  obtain ⟨x, hx, hy⟩ := List.mem_flatMap.1 hy
  unfold oK1 at hy
  split at hy
  · rw [List.mem_singleton] at hy; omega
  · unfold oK at hy
    obtain ⟨c, hc, rfl⟩ := List.mem_map.1 hy
    unfold cK at hc
    have hc2 := List.mem_range.1 (List.mem_filter.1 hc).1
    have := (lI hm hp hi (h.rng x hx) (c := c) (by omega)).1.2
    have := (hm.or _ c this (by omega)).1
    unfold oC; omega
end Go.AV
namespace Go.AV
open Nat renaming reduceEqDiff → J, reduceAdd → E, reduceLeDiff → U, reduceLT → Z, reduceMul → V, reduceSub → Y
open List renaming set_cons_zero → aw, set_cons_succ → au
/-plain-/
/-! A model follows. On m37Th. -/
theorem tO {m : Mly} {A D : Int} (hn : 1 ≤ m.nx.length) (hA : 0 ≤ A) (hD : 0 ≤ D ∧ D < m.nx.length) : qxN m (A * (m.nx.length : Int) + D) = A.toNat ∧ sxN m (A * (m.nx.length : Int) + D) = D.toNat := by
  unfold qxN sxN
  obtain ⟨A', rfl⟩ := Int.eq_ofNat_of_zero_le hA
  obtain ⟨D', rfl⟩ := Int.eq_ofNat_of_zero_le hD.1
  have e2 : ((A' : Int) * (m.nx.length : Int) + (D' : Int)).toNat = m.nx.length * A' + D' := by
    have : ((A' : Int) * (m.nx.length : Int) + (D' : Int)) = ((m.nx.length * A' + D' : Nat) : Int) := by push_cast; rw [Int.mul_comm]
    rw [this]; rfl
  have hD' : D' < m.nx.length := by omega
  rw [e2]
  constructor
  · rw [Nat.mul_add_div (by omega), Nat.div_eq_of_lt hD']; simp
  · rw [Nat.mul_add_mod, Nat.mod_eq_of_lt hD']; simp
theorem o9 : ∀ {S : List SS} {x : List Int}, dm S x < S.length → (S.getD (dm S x) ss0).1 = x
  | [], _, h => by simp [dm] at h
  | s :: S, x, h => by
    by_cases e : s.1 = x
    · have p1 : dm (s :: S) x = 0 := if_pos e
      rw [p1]; exact e
    · have p1 : dm (s :: S) x = dm S x + 1 := if_neg e
      rw [p1] at h ⊢
      have := o9 (S := S) (x := x) (by simpa using h)
      exact this
theorem w6 {S : List SS} {x w : List Int} (h : sgB S x = true) : 0 ≤ sgK S x ∧ sgK S x < (sgS S x w).length ∧ ((sgS S x w).getD (sgK S x).toNat ss0).1 = x := by
  by_cases hps : dm S x < S.length
  · obtain ⟨e1, _, e3⟩ := gM (w := w) hps
    rw [e1, e3]
    exact ⟨by omega, by omega, by rw [Int.toNat_natCast]; exact o9 hps⟩
  · have hfl : ¬ S.length = 128 := by unfold sgB at h; rw [decide_eq_true_eq] at h; omega
    obtain ⟨e1, _, e3⟩ := gZ (w := w) hps hfl
    rw [e1, e3]
    refine ⟨by omega, by rw [List.length_append]; simp only [List.length_cons, List.length_nil]; omega, ?_⟩
    rw [Int.toNat_natCast]
    simp [List.getD]
theorem rT {m : Mly} {p : Mpr} {i a : Nat} {t : MS} (h : cX m p i t a = none) : (aO m p (cxM t i) a).length ≤ 1 ∧ (aO m p (cxM t i) a).getD 0 0 ≤ 1048576 ∧ sgB t.S (aN m p (cxM t i) a) = true := by
  unfold cX at h
  split at h
  · cases h
  · split at h
    · cases h
    · split at h
      · cases h
      · rename_i h1 h2 h3
        refine ⟨by omega, by omega, ?_⟩
        cases hb : sgB t.S (aN m p (cxM t i) a) with
        | true => rfl
        | false => exact absurd hb h3
theorem gX {α : Type} {l : List α} {x d : α} {k : Nat} (h : k ≤ l.length) : (l ++ [x]).getD k d = if k < l.length then l.getD k d else x := by
  by_cases e : k < l.length
  · rw [if_pos e]; simp [List.getD, List.getElem?_append_left e]
  · have : k = l.length := by omega
    rw [if_neg e, this]; simp [List.getD]
/-- What a place of the table tells: x is the set, T the next one's number, o the output. -/
structure CEL (m : Mly) (p : Mpr) (S : List SS) (x : List Int) (a : Nat) (T o : Int) : Prop where
  t0 : 0 ≤ T
  t1 : T < S.length
  nx : (S.getD T.toNat ss0).1 = aN m p x a
  ou : o = (aO m p x a).getD 0 0
  l1 : (aO m p x a).length ≤ 1
  o1 : o ≤ 1048576
theorem CEL.grow {m : Mly} {p : Mpr} {S : List SS} {x : List Int} {a : Nat} {T o : Int} (h : CEL m p S x a T o) (y w : List Int) : CEL m p (sgS S y w) x a T o := by
  have h1 := h.t0; have h2 := h.t1; have h3 := t5 S y w
  exact ⟨h.t0, by omega, (by rw [pf (by omega)]; exact h.nx), h.ou, h.l1, h.o1⟩
theorem rh {m : Mly} {p : Mpr} {x : List Int} {b : Nat} {T o : Int} {i : Nat} (h : CEL m p (bG m p i).S x b T o) : ∀ a, CEL m p (bW m p i a).S x b T o
  | 0 => h
  | a + 1 => by rw [dN]; exact (rh h a).grow _ _
theorem jW {m : Mly} {p : Mpr} {i j : Nat} (h : j < (bG m p i).S.length) : ∀ a, (bW m p i a).S.getD j ss0 = (bG m p i).S.getD j ss0
  | 0 => rfl
  | a + 1 => by
    rw [dN]
    have := fl (m := m) (p := p) (i := i) a
    exact (pf (by omega)).trans (jW h a)
/-- The row under way. -/
theorem qs {m : Mly} {p : Mpr} {i : Nat} (hl : i < (bG m p i).S.length) : ∀ a, (∀ b, b < a → cX m p i (bW m p i b) b = none) → ∀ b, b < a → CEL m p (bW m p i a).S ((bG m p i).S.getD i ss0).1 b ((bW m p i a).nr.getD b 0) ((bW m p i a).os.getD b 0)
  | 0, _, b, hb => by omega
  | a + 1, h, b, hb => by
    have ih := qs hl a fun c hc => h c (by omega)
    obtain ⟨_, _, h3, h4⟩ := gD (m := m) (p := p) (i := i) a
    have hn := eL m p i
    rw [hn.1] at h3; rw [hn.2.1] at h4
    simp only [List.length_nil, Nat.zero_add] at h3 h4
    rw [dN]
    show CEL m p (sgS _ _ _) _ b ((_ ++ [_]).getD b 0) ((_ ++ [_]).getD b 0)
    rw [gX (by omega), gX (by omega)]
    by_cases e : b < a
    · rw [if_pos (by omega), if_pos (by omega)]
      exact (ih b e).grow _ _
    · have e2 : b = a := by omega
      subst e2
      rw [if_neg (by omega), if_neg (by omega)]
      obtain ⟨f1, f2, f3⟩ := rT (h b (by omega))
      have hc : cxM (bW m p i b) i = ((bG m p i).S.getD i ss0).1 := by unfold cxM; rw [jW hl b]
      have hk := w6 (w := cwM (bW m p i b) i b) f3
      rw [hc] at f1 f2 f3 hk ⊢
      exact ⟨hk.1, hk.2.1, hk.2.2, rfl, f1, f2⟩
/-- The rows that are done. -/
theorem jH {m : Mly} {p : Mpr} : ∀ {i : Nat}, RIM m p i → i ≤ (bG m p i).S.length ∧ ∀ t, t < i → (((bG m p i).N.getD t []).length = p.ab.toNat ∧ ((bG m p i).O.getD t []).length = p.ab.toNat) ∧ ∀ b, b < p.ab.toNat → CEL m p (bG m p i).S ((bG m p i).S.getD t ss0).1 b (((bG m p i).N.getD t []).getD b 0) (((bG m p i).O.getD t []).getD b 0)
  | 0, _ => ⟨Nat.zero_le _, fun t ht => by omega⟩
  | i + 1, h => by
    obtain ⟨hl, hF⟩ := h i (by omega)
    obtain ⟨i1, i2⟩ := jH (i := i) fun j hj => h j (by omega)
    have hge := fl (m := m) (p := p) (i := i) p.ab.toNat
    obtain ⟨h1, h2, h3, h4⟩ := gD (m := m) (p := p) (i := i) p.ab.toNat
    have hn := eL m p i
    rw [hn.1] at h3; rw [hn.2.1] at h4
    simp only [List.length_nil, Nat.zero_add] at h3 h4
    rw [fH]
    refine ⟨by show _ ≤ (bW m p i p.ab.toNat).S.length; omega, fun t ht => ?_⟩
    show (((_ ++ [_]).getD t []).length = _ ∧ ((_ ++ [_]).getD t []).length = _) ∧ ∀ b, b < p.ab.toNat → CEL m p (bW m p i p.ab.toNat).S (((bW m p i p.ab.toNat).S).getD t ss0).1 b (((_ ++ [_]).getD t []).getD b 0) (((_ ++ [_]).getD t []).getD b 0)
    rw [h1, h2, gX (by rw [hn.2.2.1]; omega), gX (by rw [hn.2.2.2]; omega), hn.2.2.1, hn.2.2.2, jW (by omega)]
    by_cases e : t < i
    · rw [if_pos e, if_pos e]
      obtain ⟨j1, j2⟩ := i2 t e
      exact ⟨j1, fun b hb => rh (j2 b hb) _⟩
    · have e2 : t = i := by omega
      subst e2
      rw [if_neg (by omega), if_neg (by omega)]
      exact ⟨⟨h3, h4⟩, fun b hb => qs hl _ hF b hb⟩
theorem lL {m : Mly} {p : Mpr} (h : (mdl m p).e = 0 ∧ (mdl m p).f = true) : ∃ i, MOK m ∧ POK p ∧ m.inp = p.inp ∧ RIM m p i ∧ (bG m p i).S.length = i ∧ 0 < i ∧ mdl m p = g8 p (bG m p i) := by
  rcases mF m p with ⟨e, h1, h2⟩ | ⟨hm, hp, hi, ⟨i, g1, g2, g3, g4⟩ | ⟨i, a, g1, g2, g3, g4, h2⟩⟩
  · rw [h2] at h; exact absurd h.1 h1
  · exact ⟨i, hm, hp, hi, g1, g2, g3, g4⟩
  · rw [h2] at h; exact absurd h.2 (by simp)
theorem xb {m : Mly} {p : Mpr} (hm : MOK m) (hp : POK p) (hi : m.inp = p.inp) {xs : List Int} (h : SB m p xs) (a : Int) : 0 ≤ (aO m p xs a).getD 0 0 :=
  vg (x8 hm hp hi h a) _ (cU (tq hp h.pos a))
/-- The model is a machine. -/
theorem vp {m : Mly} {p : Mpr} {i : Nat} (hm : MOK m) (hp : POK p) (hi : m.inp = p.inp) (hR : RIM m p i) (hl : (bG m p i).S.length = i) (h0 : 0 < i) : MOK (g8 p (bG m p i)).my := by
  obtain ⟨_, hc⟩ := jH hR
  have hS := f9 hm hp hi hR
  have hn := eL m p i
  have a1 := hp.b1; have a2 := hp.b2; have hle := hS.le
  have e1 : (g8 p (bG m p i)).my = ⟨p.ab, 0, (bG m p i).N, (bG m p i).O⟩ := rfl
  rw [e1]
  refine ⟨a1, a2, ?_, ?_, Int.le_refl _, ?_, ?_, ?_, ?_, ?_, ?_⟩
  · show 1 ≤ (bG m p i).N.length; omega
  · show (bG m p i).N.length ≤ 128; omega
  · show (0 : Int) < ((bG m p i).N.length : Int); omega
  · show (bG m p i).O.length = (bG m p i).N.length; omega
  · intro s hs
    have := ((hc s (by show s < i; have : s < (bG m p i).N.length := hs; omega)).1).1
    show (((bG m p i).N.getD s []).length : Int) = p.ab; omega
  · intro s hs
    have := ((hc s (by show s < i; have : s < (bG m p i).N.length := hs; omega)).1).2
    show (((bG m p i).O.getD s []).length : Int) = p.ab; omega
  · intro s a hs ha
    have hs2 : s < (bG m p i).N.length := hs
    have ha2 : (a : Int) < p.ab := ha
    have := (hc s (by omega)).2 a (by omega)
    have h1 := this.t0; have h2 := this.t1
    show 0 ≤ ((bG m p i).N.getD s []).getD a 0 ∧ ((bG m p i).N.getD s []).getD a 0 < ((bG m p i).N.length : Int)
    omega
  · intro s a hs ha
    have hs2 : s < (bG m p i).N.length := hs
    have ha2 : (a : Int) < p.ab := ha
    have hq := (hc s (by omega)).2 a (by omega)
    have h1 := hq.ou; have h2 := hq.o1
    have h3 := xb hm hp hi (hS.at_ (i := s) (by omega)).1 (a : Int)
    show 0 ≤ ((bG m p i).O.getD s []).getD a 0 ∧ ((bG m p i).O.getD s []).getD a 0 ≤ 1048576
    omega
theorem wk {l : List Int} {x : Int} (h : l.length ≤ 1) (hx : x ∈ l) : l.getD 0 0 = x := by
  match l, h, hx with
  | [y], _, hx => rw [List.mem_singleton] at hx; rw [hx]; rfl
theorem wd {p : Mpr} {q : Nat} {a : Int} {c : Nat} (hc : c < p.inp.toNat) (h : (p.sy.getD q []).getD c 0 = a) : c ∈ cK p q a p.inp.toNat := by
  unfold cK
  rw [List.mem_filter]
  exact ⟨List.mem_range.2 hc, by simpa [pP] using h⟩
theorem tl {m : Mly} {p : Mpr} {i : Nat} (hm : MOK m) (hp : POK p) (hi : m.inp = p.inp) (hR : RIM m p i) (hl : (bG m p i).S.length = i) : ∀ (w : List Int) (q s t : Int), (0 ≤ q ∧ q < p.nx.length) → (0 ≤ s ∧ s < m.nx.length) → (0 ≤ t ∧ t < i) → ic p.inp w → q * (m.nx.length : Int) + s ∈ ((bG m p i).S.getD t.toNat ss0).1 →
    ((g8 p (bG m p i)).my.go t (p.im q w)).2 = (m.go s w).2.map (1 + ·)
  | [], _, _, _, _, _, _, _, _ => rfl
  | c :: w, q, s, t, hq, hs, ht, hw, hx => by
    obtain ⟨hc, hw2⟩ := gL.1 hw
    obtain ⟨_, hcel⟩ := jH hR
    have hS := f9 hm hp hi hR
    have hn := hm.n1
    have ha := hp.sx hq hc
    have hcl := (hcel t.toNat (by omega)).2 (p.sx q c).toNat (by omega)
    have hsb := (hS.at_ (i := t.toNat) (by omega)).1
    obtain ⟨e1, e2⟩ := tO hn hq.1 hs
    have eA : (((p.sx q c).toNat : Nat) : Int) = p.sx q c := by omega
    have hmem : c.toNat ∈ cK p (qxN m (q * (m.nx.length : Int) + s)) (((p.sx q c).toNat : Nat) : Int) p.inp.toNat := wd (by omega) (by rw [e1, eA]; rfl)
    have hne : ¬ cK p (qxN m (q * (m.nx.length : Int) + s)) (((p.sx q c).toNat : Nat) : Int) p.inp.toNat = [] := fun h => by rw [h] at hmem; cases hmem
    have ho : oC m (q * (m.nx.length : Int) + s) c.toNat ∈ aO m p ((bG m p i).S.getD t.toNat ss0).1 (((p.sx q c).toNat : Nat) : Int) := by
      unfold aO
      rw [(cW _).2]
      unfold oA
      refine List.mem_flatMap.2 ⟨_, hx, ?_⟩
      unfold oK1
      rw [if_neg hne]
      exact List.mem_map.2 ⟨_, hmem, rfl⟩
    have hnA : nC m p (q * (m.nx.length : Int) + s) c.toNat ∈ nA m p ((bG m p i).S.getD t.toNat ss0).1 (((p.sx q c).toNat : Nat) : Int) := by
      unfold nA
      refine List.mem_flatMap.2 ⟨_, hx, ?_⟩
      exact List.mem_map.2 ⟨_, hmem, rfl⟩
    have hnN : nC m p (q * (m.nx.length : Int) + s) c.toNat ∈ aN m p ((bG m p i).S.getD t.toNat ss0).1 (((p.sx q c).toNat : Nat) : Int) := by
      unfold aN
      rw [if_neg (fun h => by rw [h] at hnA; cases hnA), (cW _).2]
      exact hnA
    have eo : (g8 p (bG m p i)).my.out t (p.sx q c) = 1 + m.out s c := by
      have h1 : (g8 p (bG m p i)).my.out t (p.sx q c) = ((bG m p i).O.getD t.toNat []).getD (p.sx q c).toNat 0 := rfl
      rw [h1, hcl.ou, wk hcl.l1 ho]
      unfold oC
      rw [e2]; rfl
    have en : nC m p (q * (m.nx.length : Int) + s) c.toNat = p.tx q c * (m.nx.length : Int) + m.nxt s c := by
      unfold nC
      rw [e1, e2]; rfl
    have et : (g8 p (bG m p i)).my.nxt t (p.sx q c) = ((bG m p i).N.getD t.toNat []).getD (p.sx q c).toNat 0 := rfl
    show ((g8 p (bG m p i)).my.go t (p.sx q c :: p.im (p.tx q c) w)).2 = _
    rw [di, di, List.map_cons, eo]
    have hT0 := hcl.t0; have hT1 := hcl.t1
    have ih := tl hm hp hi hR hl w (p.tx q c) (m.nxt s c) ((g8 p (bG m p i)).my.nxt t (p.sx q c)) (hp.tx hq hc) (hm.nr s.toNat c.toNat (by omega) (by omega)) (by rw [et]; omega) hw2 (by rw [et, hcl.nx, ← en]; exact hnN)
    rw [ih]
structure FOL (m : Mly) (p : Mpr) (w : List Int) : Prop where
  mv : bj (mdl m p).my = 0
  mi : (mdl m p).my.inp = p.ab
  s1 : SOK (mdl m p).my (mdl m p).my.st
  w1 : WOK (abV p w) (mdl m p).my.inp
  s2 : SOK m m.st
  w2 : WOK w m.inp
  go : ((mdl m p).my.go (mdl m p).my.st (abV p w)).2 = (m.go m.st w).2.map (1 + ·)
  ml : MOK m
theorem sU {m : Mly} {p : Mpr} {w : List Int} (h : (mdl m p).e = 0 ∧ (mdl m p).f = true) (ha : abE p w = 0) : FOL m p w := by
  obtain ⟨i, hm, hp, hi, hR, hl, h0, he⟩ := lL h
  obtain ⟨_, hwE, hv⟩ := vq ha
  have hM := vp hm hp hi hR hl h0
  have hws := nI hwE
  have hwl := (pl hwE).len
  have hn := eL m p i
  have hps : 0 ≤ p.st ∧ p.st < p.nx.length := ⟨hp.s1, hp.s2⟩
  rw [← he] at hM
  have e1 : (mdl m p).my = ⟨p.ab, 0, (bG m p i).N, (bG m p i).O⟩ := by rw [he]; rfl
  refine ⟨cI hM, by rw [e1], ⟨hM, hM.s1, hM.s2⟩, ⟨by rw [hv, tB]; exact hwl, ?_⟩, ⟨hm, hm.s1, hm.s2⟩, by rw [hi]; exact pl hwE, ?_, hm⟩
  · rw [e1, hv]; exact qf (sQ hp w hps hws)
  · rw [he, hv]
    have hst0 : (bG m p i).S.getD 0 ss0 = (bG m p 0).S.getD 0 ss0 := by
      clear hl h0 he hM e1 hn h
      induction i with
      | zero => rfl
      | succ i ih =>
        have h1 := (hR i (by omega)).1
        have hR2 : RIM m p i := fun j hj => hR j (by omega)
        have h2 := (jH hR2).1
        rw [← ih hR2]
        exact jW (by omega) _
    exact tl hm hp hi hR hl w p.st m.st 0 hps ⟨hm.s1, hm.s2⟩ ⟨by decide, by omega⟩ hws (by
      show _ ∈ ((bG m p i).S.getD 0 ss0).1
      rw [hst0]; exact List.mem_singleton.2 rfl)
end Go.AV
namespace Go.AV
open Nat renaming reduceEqDiff → J, reduceAdd → E, reduceLeDiff → U, reduceLT → Z, reduceMul → V, reduceSub → Y
open List renaming set_cons_zero → aw, set_cons_succ → au
/-plain-/
/-! A machine over the classes. On mfolTh, shTh, claw2Th. -/
def SND (m : Mly) (cl : List Int) : Prop := ∀ s, s ∈ m.reach → ∀ c d : Nat, c < cl.length → d < cl.length → cl.getD c 0 = cl.getD d 0 → m.out s c = m.out s d ∧ EQV m (m.nxt s c) (m.nxt s d)
theorem ww {m : Mly} {cl : List Int} (hk : COK m cl) (h : cZ m cl = none) : SND m cl := by
  intro s hs c d hc hd he
  have hm := hk.ok; have hlen := hk.len
  have hr := (eF hm).rng s hs
  have h9 : ∀ c d : Nat, c < d → d < cl.length → cl.getD c 0 = cl.getD d 0 → i3 m s c d = true := by
    intro c d hcd hd he
    rw [← uZ hm] at hs
    obtain ⟨i, hi⟩ := List.getElem?_of_mem hs
    have hi2 := (List.getElem?_eq_some_iff.1 hi).1
    rw [cS] at hi2
    have e : (m.exR.getD i eX0).1 = s := by rw [← fI hi2]; simp [List.getD, hi]
    have := sn h hi2 hcd hd
    rw [e] at this
    unfold fL at this
    rw [decide_eq_true he] at this
    simpa using this
  have key : i3 m s c d = true := by
    rcases Nat.lt_trichotomy c d with h1 | h1 | h1
    · exact h9 c d h1 hd he
    · subst h1; exact i7.2 ⟨rfl, rfl⟩
    · obtain ⟨g1, g2⟩ := i7.1 (h9 d c h1 hc he.symm)
      exact i7.2 ⟨g1.symm, g2.symm⟩
  obtain ⟨g1, g2⟩ := i7.1 key
  have n1 := hm.nr s.toNat c (by omega) (by omega)
  have n2 := hm.nr s.toNat d (by omega) (by omega)
  exact ⟨g1, (me hm n1.1 n1.2 n2.1 n2.2).1 g2⟩
def HMO (m : Mly) (xs : List Int) : Prop := ∀ x ∈ xs, x ∈ m.reach ∧ ∀ y ∈ xs, EQV m x y
theorem lE {m : Mly} {x : Int} (h : 0 ≤ x ∧ x < m.nx.length) : qxN m x = 0 ∧ sxN m x = x.toNat := by
  unfold qxN sxN
  exact ⟨Nat.div_eq_of_lt (by omega), Nat.mod_eq_of_lt (by omega)⟩
structure ONE (p : Mpr) (cl : List Int) : Prop where
  inp : p.inp = cl.length
  st : p.st = 0
  nx : p.nx = [List.replicate cl.length 0]
  sy : p.sy = [cl]
theorem uH {cl : List Int} (h : df cl = 0) : ONE (dG cl) cl := by
  have e : dG cl = ⟨cl.length, fV cl, 0, [List.replicate cl.length 0], [cl]⟩ := if_pos h
  rw [e]; exact ⟨rfl, rfl, rfl, rfl⟩
theorem rk {m : Mly} {p : Mpr} {cl xs : List Int} (ho : ONE p cl) (hs : SB m p xs) : ∀ x ∈ xs, 0 ≤ x ∧ x < m.nx.length := fun x hx => by
  have := hs.rng x hx
  rw [ho.nx] at this
  simp only [List.length_cons, List.length_nil] at this
  omega
theorem sB {m : Mly} {p : Mpr} {cl : List Int} (ho : ONE p cl) {x : Int} (hx : 0 ≤ x ∧ x < m.nx.length) (a : Int) : cK p (qxN m x) a p.inp.toNat = (List.range cl.length).filter fun c => decide (cl.getD c 0 = a) := by
  rw [(lE hx).1]
  unfold cK pP
  rw [ho.inp, ho.sy]; rfl
theorem un {m : Mly} {x : Int} (hx : 0 ≤ x ∧ x < m.nx.length) (c : Nat) : oC m x c = 1 + m.out x c := by
  unfold oC
  rw [(lE hx).2]; rfl
theorem wX {m : Mly} {p : Mpr} {cl : List Int} (ho : ONE p cl) {x : Int} (hx : 0 ≤ x ∧ x < m.nx.length) (c : Nat) : nC m p x c = m.nxt x c := by
  unfold nC
  rw [(lE hx).1, (lE hx).2, ho.nx, List.getD_cons_zero, lC, Int.zero_mul, Int.zero_add]; rfl
theorem tX {m : Mly} {p : Mpr} {cl xs : List Int} (hm : MOK m) (ho : ONE p cl) (hi : m.inp = p.inp) (hsd : SND m cl) (hs : SB m p xs) (h : HMO m xs) (a : Int) : HMO m (aN m p xs a) := by
  have hr := rk ho hs
  have hin := ho.inp
  have hy : ∀ y ∈ nA m p xs a, ∃ x c, x ∈ xs ∧ c < cl.length ∧ cl.getD c 0 = a ∧ y = m.nxt x (c : Nat) := by
    intro y hy
    unfold nA at hy
    obtain ⟨x, hx, hy⟩ := List.mem_flatMap.1 hy
    unfold nK at hy
    obtain ⟨c, hc, rfl⟩ := List.mem_map.1 hy
    rw [sB ho (hr x hx)] at hc
    obtain ⟨c1, c2⟩ := List.mem_filter.1 hc
    exact ⟨x, c, hx, List.mem_range.1 c1, by simpa using c2, wX ho (hr x hx) c⟩
  intro y hy1
  unfold aN at hy1 ⊢
  rw [(cW _).2] at hy1
  by_cases e : nA m p xs a = []
  · rw [if_pos e] at hy1 ⊢
    refine ⟨(h y hy1).1, fun z hz => ?_⟩
    rw [(cW _).2] at hz
    exact (h y hy1).2 z hz
  · rw [if_neg e] at hy1 ⊢
    obtain ⟨x, c, hx, hc, hca, rfl⟩ := hy y hy1
    refine ⟨rP hm (h x hx).1 ⟨by omega, by omega⟩, fun z hz => ?_⟩
    rw [(cW _).2] at hz
    obtain ⟨x2, c2, hx2, hc2, hca2, rfl⟩ := hy z hz
    have h1 := (kx ((h x hx).2 x2 hx2) (a := (c : Int)) ⟨by omega, by omega⟩).2
    have h2 := (hsd x2 (h x2 hx2).1 c c2 hc hc2 (by rw [hca, hca2])).2
    exact fun w hw => (h1 w hw).trans (h2 w hw)
theorem vr {m : Mly} {p : Mpr} {cl xs : List Int} (ho : ONE p cl) (hi : m.inp = p.inp) (hsd : SND m cl) (hs : SB m p xs) (h : HMO m xs) (a : Int) : (aO m p xs a).length ≤ 1 := by
  have hr := rk ho hs
  have hin := ho.inp
  have hall : ∀ y z, y ∈ oA m p xs a → z ∈ oA m p xs a → y = z := by
    intro y z hy hz
    unfold oA at hy hz
    obtain ⟨x, hx, hy⟩ := List.mem_flatMap.1 hy
    obtain ⟨x2, hx2, hz⟩ := List.mem_flatMap.1 hz
    unfold oK1 oK at hy hz
    rw [sB ho (hr x hx)] at hy
    rw [sB ho (hr x2 hx2)] at hz
    by_cases e : ((List.range cl.length).filter fun c => decide (cl.getD c 0 = a)) = []
    · rw [if_pos e, List.mem_singleton] at hy hz
      rw [hy, hz]
    · rw [if_neg e] at hy hz
      obtain ⟨c, hc, rfl⟩ := List.mem_map.1 hy
      obtain ⟨c2, hc2, rfl⟩ := List.mem_map.1 hz
      obtain ⟨q1, q2⟩ := List.mem_filter.1 hc
      obtain ⟨r1, r2⟩ := List.mem_filter.1 hc2
      rw [List.mem_range] at q1 r1
      have q3 : cl.getD c 0 = a := by simpa using q2
      have r3 : cl.getD c2 0 = a := by simpa using r2
      rw [un (hr x hx), un (hr x2 hx2), (kx ((h x hx).2 x2 hx2) (a := (c : Int)) ⟨by omega, by omega⟩).1, (hsd x2 (h x2 hx2).1 c c2 q1 r1 (by rw [q3, r3])).1]
  by_cases e : (aO m p xs a).length ≤ 1
  · exact e
  · exfalso
    have hor := (cW (oA m p xs a)).1
    have hl : 1 < (j4 (oA m p xs a)).length := by unfold aO at e; omega
    have h1 := List.pairwise_iff_getElem.1 hor 0 1 (by omega) hl (by omega)
    have h2 := hall _ _ (((cW (oA m p xs a)).2 _).1 (List.getElem_mem (show 0 < (j4 (oA m p xs a)).length by omega))) (((cW (oA m p xs a)).2 _).1 (List.getElem_mem hl))
    omega
theorem mj {m : Mly} {p : Mpr} {cl : List Int} (hm : MOK m) (hp : POK p) (ho : ONE p cl) (hi : m.inp = p.inp) (hsd : SND m cl) {i : Nat} (h0 : SVM m p i (bG m p i).S) (h1 : i < (bG m p i).S.length) (hh : ∀ s ∈ (bG m p i).S, HMO m s.1) : ∀ a, ∀ s ∈ (bW m p i a).S, HMO m s.1
  | 0 => hh
  | a + 1 => fun s hs => by
    have ih := mj hm hp ho hi hsd h0 h1 hh a
    obtain ⟨h2, _⟩ := ia hm hp hi h0 h1 a
    have hge := fl (m := m) (p := p) (i := i) a
    rw [dN] at hs
    rcases ni hs with q | q
    · exact ih s q
    · rw [q]
      have hmem : (bW m p i a).S.getD i ss0 ∈ (bW m p i a).S := by simp [List.getD, show i < (bW m p i a).S.length by omega]
      exact tX hm ho hi hsd (h2.sb _ hmem) (ih _ hmem) _
theorem pK {m : Mly} {p : Mpr} {cl : List Int} (hm : MOK m) (hp : POK p) (ho : ONE p cl) (hi : m.inp = p.inp) (hsd : SND m cl) : ∀ {i : Nat}, RIM m p i → ∀ s ∈ (bG m p i).S, HMO m s.1
  | 0, _ => fun s hs => by
    have : s = ([p.st * (m.nx.length : Int) + m.st], []) := List.mem_singleton.1 hs
    rw [this, ho.st, Int.zero_mul, Int.zero_add]
    intro x hx
    rw [List.mem_singleton] at hx
    subst hx
    refine ⟨uh hm, fun y hy => ?_⟩
    rw [List.mem_singleton] at hy
    subst hy
    exact fun w _ => rfl
  | i + 1, h => by
    rw [fH]
    have hR : RIM m p i := fun j hj => h j (by omega)
    exact mj hm hp ho hi hsd (f9 hm hp hi hR) (h i (by omega)).1 (pK hm hp ho hi hsd hR) _
theorem tg {p : Mpr} {cl : List Int} (ho : ONE p cl) : ∀ (w : List Int), p.im 0 w = w.map fun a => cl.getD a.toNat 0
  | [] => rfl
  | c :: w => by
    have e1 : p.tx 0 c = 0 := by
      unfold Mpr.tx
      rw [ho.nx]
      exact lC
    have e2 : p.sx 0 c = cl.getD c.toNat 0 := by
      unfold Mpr.sx
      rw [ho.sy]; rfl
    show p.sx 0 c :: p.im (p.tx 0 c) w = _
    rw [e1, e2, tg ho w]; rfl
theorem jt : ∀ {a b : List Int}, a.map (1 + ·) = b.map (1 + ·) → a = b
  | [], [], _ => rfl
  | [], _ :: _, h => by cases h
  | _ :: _, [], h => by cases h
  | x :: a, y :: b, h => by
    simp only [List.map_cons, List.cons.injEq] at h
    rw [jt h.2, show x = y by omega]
theorem vO {m : Mly} {cl : List Int} (hc : bE m cl = 0) (hE : df cl = 0) (he : (mdl m (dG cl)).e = 0) (hs : m.nx.length ≤ 12) : (mdl m (dG cl)).f = !eg m cl := by
  have hk := fx hc
  have ho := uH hE
  have hin := ho.inp
  have hlen := hk.len
  cases hb : eg m cl with
  | true =>
    have hw := wG hc hb hs
    cases hf : (mdl m (dG cl)).f with
    | false => rfl
    | true =>
      exfalso
      obtain ⟨i, hm, hp, hi, _, _, _, _⟩ := lL ⟨he, hf⟩
      have i1 := hp.i1; have i2 := hp.i2; have hl1 := hw.lu; have hl2 := hw.lv
      have hab : ∀ w, SYM m.inp w → w.length ≤ 200 → abE (dG cl) w = 0 ∧ abV (dG cl) w = w.map fun a => cl.getD a.toNat 0 := by
        intro w h1 h2
        have h3 : d4 w (dG cl).inp = 0 := nG ⟨i1, by omega⟩ (by rw [← hi]; exact h1) (by omega)
        obtain ⟨q1, q2⟩ := vD hp.valid h3
        exact ⟨q1, by rw [q2, ho.st, tg ho]⟩
      obtain ⟨u1, u2⟩ := hab _ hw.su hw.lu
      obtain ⟨v1, v2⟩ := hab _ hw.sv (by omega)
      have g1 := (sU ⟨he, hf⟩ u1).go
      have g2 := (sU ⟨he, hf⟩ v1).go
      rw [u2] at g1
      rw [v2, ← hw.im, g1] at g2
      exact hw.ne (jt g2)
  | false =>
    have hfn : cZ m cl = none := by
      unfold eg at hb
      rw [if_pos hc] at hb
      cases hf : cZ m cl with
      | none => rfl
      | some p => rw [hf] at hb; cases hb
    have hsd := ww hk hfn
    rcases mF m (dG cl) with ⟨e, h1, h2⟩ | ⟨hm, hp, hi, ⟨i, _, _, _, h2⟩ | ⟨i, a, g1, g2, g3, g4, h2⟩⟩
    · rw [h2] at he; exact absurd he h1
    · rw [h2]; rfl
    · exfalso
      have hSR := f9 hm hp hi g1
      obtain ⟨hSI, _⟩ := ia hm hp hi hSR g2 a
      have hge := fl (m := m) (p := dG cl) (i := i) a
      have hmem : (bW m (dG cl) i a).S.getD i ss0 ∈ (bW m (dG cl) i a).S := by simp [List.getD, show i < (bW m (dG cl) i a).S.length by omega]
      have := vr ho hi hsd (hSI.sb _ hmem) (mj hm hp ho hi hsd hSR g2 (pK hm hp ho hi hsd g1) a _ hmem) (a : Int)
      unfold cxM at g4
      omega
end Go.AV
namespace Go.Proofs.YtceafldjjedhcaaDoor
open Go Go.AV
open Nat renaming reduceEqDiff → J, reduceAdd → E, reduceLeDiff → U, reduceLT → Z, reduceMul → V, reduceSub → Y
open List renaming set_cons_zero → aw, set_cons_succ → au
set_option maxRecDepth 100000 in
theorem vZ (m : Mly) : cq Tryd.prog 4 [m.av] (.one (.bool ((decide ((m.nx.length : Int) ≤ 12) && decide ((m.ot.length : Int) ≤ 12)) && decide (m.inp ≤ 4)))) := by
 refine bt Tryd.func4 rfl (by kernel_rfl) (Nat.le_of_ble_eq_true rfl) rfl fun C hP hN hB => ?_
 replace hN : C.N = 18 := hN
 simp only [ae, E]
 refine ah fun K1 hK1 => ?_
 refine ao hP hN rfl ?_
 iterate 2 (refine ag rfl fun K0 aa => ?_; simp only [zE, op1, ev, lkp, am, ak, dn, ax, reduceCtorEq, J, E, U, Z, V, Y, Tryd.st24, Tryd.td24, Tryd.td4, Mly.av]; (repeat refine And.intro (by first | omega | assumption | exact rfl) ?_); refine aa _ ?_; clear aa K0; simp only [put, app, af, aj, zE, zS, E])
 refine aq ?_
 refine hK1 _ ?_; clear hK1; refine ai [0, 1, 2] ?_; simp only [ad, lkp, zE, reduceCtorEq, J, ae, E]
 refine ah fun K2 hK2 => ?_
 refine ao hP hN rfl ?_
 iterate 4 (refine ag rfl fun K0 aa => ?_; simp only [zE, op1, ev, lkp, am, ak, aA, aE, Nat.mul_one, aC, aD, acs, Ty.dflt, zG, az, aP, bT, bC, bu, bv, bP, Nat.div_one, aV, bz, Ty.size, aM, dite_true, aJ, aK, aI, ay, aH, aX, reduceCtorEq, J, E, U, Z, V, Y, Tryd.el22, Tryd.st24, Tryd.td2, Tryd.td22, Tryd.td24, Tryd.td3, Tryd.td4, Mly.av]; (repeat refine And.intro (by first | omega | assumption | exact rfl) ?_); (first | refine aa _ ?_ | refine Or.inl (aa _ ?_)); clear aa K0; simp only [put, app, af, aj, zE, zS, E])
 (refine ag rfl fun K0 aa => ?_; simp only [zE, op1, ev, lkp, am, ak, ev, reduceCtorEq, J, E, U, Z, V, Y, Tryd.td4, Mly.av]; refine aa _ ?_; clear aa K0; simp only [put, app, af, aj, zE, zS, E])
 refine' bn (want := true) 4 rfl (m := 7) (by simp only [ad, lkp, zE, reduceCtorEq, J, ae, E]; exact rfl) (by kernel_rfl) rfl rfl rfl rfl rfl (fun hg3 => ?a3) ?b3 ?c3
 case a3 =>
  have hq3 := hg3; (try simp only [zB, reduceCtorEq] at hg3); simp only [List.take_succ_cons, List.take_zero, List.cons_append, List.nil_append]
  (refine aG rfl fun K0 aa => ?_; simp only [zE, op1, ev, lkp, am, ak, aA, reduceCtorEq, J, E, U, Z, V, Y, Tryd.st24, Tryd.td24, Tryd.td3, Mly.av]; (repeat refine And.intro (by first | omega | assumption | exact rfl) ?_); refine aa _ ?_; clear aa K0; simp only [put, app, af, aj, zE, zS, E])
  (refine aG rfl fun K0 aa => ?_; simp only [zE, op1, ev, lkp, am, ak, aE, Nat.mul_one, aC, aD, acs, Ty.dflt, zG, az, reduceCtorEq, J, E, U, Z, V, Y, Tryd.el22, Tryd.td22, Mly.av]; (repeat refine And.intro (by first | omega | assumption | exact rfl) ?_); refine aa _ ?_; clear aa K0; simp only [put, app, af, aj, zE, zS, E])
  (refine aG rfl fun K0 aa => ?_; simp only [zE, op1, ev, lkp, am, ak, aP, bT, bC, bu, bv, bP, Nat.div_one, aV, bz, Ty.size, aM, dite_true, reduceCtorEq, J, E, U, Z, V, Y, Tryd.el22, Tryd.td22, Tryd.td3, Mly.av]; (repeat refine And.intro (by first | omega | assumption | exact rfl) ?_); (first | refine aa _ ?_ | refine Or.inl (aa _ ?_)); clear aa K0; simp only [put, app, af, aj, zE, zS, E])
  (refine aG rfl fun K0 aa => ?_; simp only [zE, op1, ev, lkp, am, ak, aJ, aK, aI, ay, aH, aX, reduceCtorEq, J, E, U, Z, V, Y, Tryd.td3, Tryd.td4, Mly.av]; (repeat refine And.intro (by first | omega | assumption | exact rfl) ?_); refine aa _ ?_; clear aa K0; simp only [put, app, af, aj, zE, zS, E])
  (refine ag rfl fun K0 aa => ?_; simp only [zE, op1, ev, lkp, am, ak, bU, reduceCtorEq, J, E, U, Z, V, Y, Tryd.td4, Mly.av]; refine aa _ ?_; clear aa K0; simp only [put, app, af, aj, zE, zS, E])
  refine aq ?_
  refine ⟨by simp only [ad, lkp, zE, reduceCtorEq, J, ae, E]; exact rfl, rfl, ?_, rfl⟩; (repeat refine bo rfl ?_); exact bY (by exact rfl) hq3
 case b3 => exact bV (by first | rfl | (simp [cD]; done) | decide)
 simp only [bM, bB]
 (refine ag rfl fun K0 aa => ?_; simp only [zE, op1, ev, lkp, am, ak, ev, reduceCtorEq, J, E, U, Z, V, Y, Tryd.td4, Mly.av]; refine aa _ ?_; clear aa K0; simp only [put, app, af, aj, zE, zS, E])
 refine' bn (want := true) 3 rfl (m := 13) (by simp only [ad, lkp, zE, reduceCtorEq, J, ae, E]; exact rfl) (by kernel_rfl) rfl rfl rfl rfl rfl (fun hg4 => ?a4) ?b4 ?c4
 case a4 =>
  have hq4 := hg4; (try simp only [zB, reduceCtorEq] at hg4); simp only [List.take_succ_cons, List.take_zero, List.cons_append, List.nil_append]
  (refine aG rfl fun K0 aa => ?_; simp only [zE, op1, ev, lkp, am, ak, aA, reduceCtorEq, J, E, U, Z, V, Y, Tryd.st24, Tryd.td24, Mly.av]; (repeat refine And.intro (by first | omega | assumption | exact rfl) ?_); refine aa _ ?_; clear aa K0; simp only [put, app, af, aj, zE, zS, E])
  (refine aG rfl fun K0 aa => ?_; simp only [zE, op1, ev, lkp, am, ak, aE, Nat.mul_one, aC, aD, acs, Ty.dflt, zG, az, reduceCtorEq, J, E, U, Z, V, Y, Tryd.td3, Mly.av]; (repeat refine And.intro (by first | omega | assumption | exact rfl) ?_); refine aa _ ?_; clear aa K0; simp only [put, app, af, aj, zE, zS, E])
  (refine aG rfl fun K0 aa => ?_; simp only [zE, op1, ev, lkp, am, ak, aJ, aK, aI, ay, aH, aX, reduceCtorEq, J, E, U, Z, V, Y, Tryd.td3, Tryd.td4, Mly.av]; (repeat refine And.intro (by first | omega | assumption | exact rfl) ?_); refine aa _ ?_; clear aa K0; simp only [put, app, af, aj, zE, zS, E])
  (refine ag rfl fun K0 aa => ?_; simp only [zE, op1, ev, lkp, am, ak, bU, reduceCtorEq, J, E, U, Z, V, Y, Tryd.td4, Mly.av]; refine aa _ ?_; clear aa K0; simp only [put, app, af, aj, zE, zS, E])
  refine aq ?_
  refine ⟨by simp only [ad, lkp, zE, reduceCtorEq, J, ae, E]; exact rfl, rfl, ?_, rfl⟩; (repeat refine bo rfl ?_); exact bY (by exact rfl) hq4
 case b4 => exact bV (by first | rfl | (simp [cD]; done) | decide)
 simp only [bM, bB]
 (refine ag rfl fun K0 aa => ?_; simp only [zE, op1, ev, lkp, am, ak, ev, reduceCtorEq, J, E, U, Z, V, Y, Tryd.td4, Mly.av]; refine aa _ ?_; clear aa K0; simp only [put, app, af, aj, zE, zS, E])
 refine aq ?_
 refine hK2 _ ?_; clear hK2; refine ai [0, 1, 2] ?_; simp only [ad, lkp, zE, reduceCtorEq, J, ae, E]
 refine aU ?_
 refine ⟨by first | exact .inl rfl | exact .inr rfl, _, rfl, ?_⟩; simp only [fzV, fz1, fzC, List.map_cons, List.map_nil, ad, lkp, zE, reduceCtorEq, J, ae, E, Mly.av]
 refine VLE.of_eq ?_
 rfl
end Go.Proofs.YtceafldjjedhcaaDoor
