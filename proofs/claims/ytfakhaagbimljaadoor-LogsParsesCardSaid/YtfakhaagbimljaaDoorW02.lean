/- Contracts of functions of this seat, each out of a walk through its code, and plain facts on what they compute. Conditions: those that each theorem names. -/
import Derived.Test.YtfakhaagbimljaaDoorW01
set_option linter.unusedSimpArgs false
set_option linter.unusedVariables false
set_option maxRecDepth 100000
namespace Go.AV
open Nat renaming reduceEqDiff → J, reduceAdd → D, reduceLeDiff → M, reduceLT → U, reduceMul → O, reduceSub → S
open List renaming set_cons_zero → bC, set_cons_succ → bD, getD_cons_zero → c9, length_append → aj, map_cons → aP, cons_append → b0, map_nil → bb, length_cons → ad, nil_append → aY, take_succ_cons → am, length_nil → aq, length_map → bJ, length_replicate → bo, take_length → az, mem_cons_self → aO, mem_cons_of_mem → aM
open Int renaming toNat_natCast → af
/-plain-/
def cmr (a b : List Int) : Int := match a, b with
  | [], [] => 0
  | [], _ :: _ => -1
  | _ :: _, [] => 1
  | x :: a, y :: b => if x = y then cmr a b else if x < y then -1 else 1
theorem ga : ∀ a b : List Int, dE a b = cmr a b
  | [], [] => by simp [dE, cmn, cmr]
  | [], y :: b => by simp [dE, cmn, cmr]
  | x :: a, [] => by simp [dE, cmn, cmr]
  | x :: a, y :: b => by
    have ih := ga a b
    by_cases e : x = y
    · subst e
      have h1 : cmr (x :: a) (x :: b) = cmr a b := by simp [cmr]
      rw [h1, ← ih]
      have h2 : cmn (x :: a) (x :: b) = cmn a b + 1 := by simp [cmn]
      unfold dE
      rw [h2]
      simp only [ad, List.getD_cons_succ]
      by_cases g1 : cmn a b = a.length ∧ cmn a b = b.length
      · rw [if_pos g1, if_pos (by omega)]
      · rw [if_neg g1, if_neg (by omega)]
        by_cases g2 : cmn a b = a.length ∨ (cmn a b < b.length ∧ a.getD (cmn a b) 0 < b.getD (cmn a b) 0)
        · rw [if_pos g2, if_pos (g2.imp (fun h => by omega) (fun h => ⟨by omega, h.2⟩))]
        · rw [if_neg g2, if_neg (fun h => g2 (h.imp (fun h => by omega) (fun h => ⟨by omega, h.2⟩)))]
    · have h2 : cmn (x :: a) (y :: b) = 0 := by simp [cmn, e]
      unfold dE
      rw [h2]
      simp only [cmr, if_neg e, ad, c9]
      rw [if_neg (by omega)]
      by_cases l : x < y
      · rw [if_pos (.inr ⟨by omega, l⟩), if_pos l]
      · rw [if_neg (fun h => h.elim (fun h => by omega) (fun h => l h.2)), if_neg l]
theorem oW : ∀ a b : List Int, cmr a b = -1 ∨ cmr a b = 0 ∨ cmr a b = 1
  | [], [] => by simp [cmr]
  | [], _ :: _ => by simp [cmr]
  | _ :: _, [] => by simp [cmr]
  | x :: a, y :: b => by
    simp only [cmr]
    split
    · exact oW a b
    · split <;> simp
theorem mu : ∀ {a b : List Int}, cmr a b = 0 → a = b
  | [], [], _ => rfl
  | [], _ :: _, h => by simp [cmr] at h
  | _ :: _, [], h => by simp [cmr] at h
  | x :: a, y :: b, h => by
    simp only [cmr] at h
    split at h
    · rename_i e; rw [e, mu h]
    · split at h <;> cases h
theorem oU : ∀ a b : List Int, cmr b a = - cmr a b
  | [], [] => rfl
  | [], _ :: _ => rfl
  | _ :: _, [] => rfl
  | x :: a, y :: b => by
    simp only [cmr]
    by_cases e : x = y
    · subst e; rw [if_pos rfl, if_pos rfl]; exact oU a b
    · rw [if_neg (Ne.symm e), if_neg e]
      by_cases l : x < y
      · rw [if_pos l, if_neg (by omega)]; rfl
      · rw [if_neg l, if_pos (by omega)]
theorem lL : ∀ {a b c : List Int}, cmr a b = -1 → cmr b c = -1 → cmr a c = -1
  | [], [], _, h, _ => by simp [cmr] at h
  | [], _ :: _, [], _, h => by simp [cmr] at h
  | [], _ :: _, _ :: _, _, _ => rfl
  | _ :: _, [], _, h, _ => by simp [cmr] at h
  | _ :: _, _ :: _, [], _, h => by simp [cmr] at h
  | x :: a, y :: b, z :: c, h, k => by
    simp only [cmr] at h k ⊢
    by_cases e : x = y
    · subst e
      rw [if_pos rfl] at h
      by_cases e2 : x = z
      · subst e2; rw [if_pos rfl] at k ⊢; exact lL h k
      · rw [if_neg e2] at k ⊢; exact k
    · rw [if_neg e] at h
      have l : x < y := by
        rcases (show x < y ∨ y ≤ x by omega) with q | q
        · exact q
        · rw [if_neg (by omega)] at h; cases h
      by_cases e2 : y = z
      · subst e2; rw [if_neg e, if_pos l]
      · rw [if_neg e2] at k
        have l2 : y < z := by
          rcases (show y < z ∨ z ≤ y by omega) with q | q
          · exact q
          · rw [if_neg (by omega)] at k; cases k
        rw [if_neg (by omega), if_pos (by omega)]
theorem pN {a b : List Int} (h : bU a b = 0) : a = b := by
  unfold bU at h
  split at h
  · cases h
  · split at h
    · cases h
    · rw [ga] at h; exact mu h
theorem rb (a b : List Int) : bU b a = - bU a b := by
  unfold bU
  rw [ga, ga, oU a b]
  by_cases h1 : a.length < b.length
  · rw [if_neg (by omega), if_pos h1, if_pos h1]; rfl
  · by_cases h2 : b.length < a.length
    · rw [if_pos h2, if_neg h1, if_pos h2]
    · rw [if_neg h2, if_neg h1, if_neg h1, if_neg h2]
theorem dW {a b c : List Int} (h : bU a b < 0) (k : bU b c < 0) : bU a c < 0 := by
  have e1 : ∀ {x y : List Int}, bU x y < 0 ↔ x.length < y.length ∨ (x.length = y.length ∧ cmr x y = -1) := fun {x y} => by
    unfold bU
    rw [ga]
    have := oW x y
    by_cases h1 : x.length < y.length
    · rw [if_pos h1]; exact ⟨fun _ => .inl h1, fun _ => by decide⟩
    · rw [if_neg h1]
      by_cases h2 : y.length < x.length
      · rw [if_pos h2]; exact ⟨fun h => by omega, fun h => by omega⟩
      · rw [if_neg h2]; exact ⟨fun h => .inr ⟨by omega, by omega⟩, fun h => by omega⟩
  rw [e1] at h k ⊢
  rcases h with h | ⟨h, h'⟩
  · rcases k with k | ⟨k, _⟩ <;> exact .inl (by omega)
  · rcases k with k | ⟨k, k'⟩
    · exact .inl (by omega)
    · exact .inr ⟨by omega, lL h' k'⟩
theorem rQ {v w : List Int} : pfB v w = true ↔ cmn v w = w.length := by
  unfold pfB; rw [decide_eq_true_iff]; omega
theorem rt (v : List Int) : pfB v v = true := rQ.2 (jj v)
def gv (X : List TRC) (t : TRC) : Bool := X.any fun u => decide (0 ≤ dfO u t)
def fT (X : List TRC) (t : TRC) : Bool := X.any (fun u => pfB u.1 t.1) || decide (t.1.length = 0)
def dX (X : List TRC) (t : TRC) : List TRC := X.filter fun u => !pfB t.1 u.1
def fl (X : List TRC) (t : TRC) : List TRC := X.takeWhile (fun u => decide (bU u.1 t.1 < 0)) ++ t :: X.dropWhile (fun u => decide (bU u.1 t.1 < 0))
def fR (X : List TRC) (t : TRC) : List TRC := if fT X t then X else fl (dX X t) t
def eJ (n : Int) (X : List TRC) (t : TRC) : Int := if ¬ prO n t = 0 then prO n t else if gv X t then 13 else 0
def SRT (X : List TRC) : Prop := X.Pairwise fun a b => bU a.1 b.1 < 0
def PFR (X : List TRC) : Prop := ∀ u ∈ X, ∀ v ∈ X, pfB u.1 v.1 = true → u.1.length = v.1.length
theorem mO (X : List TRC) (t : TRC) : (dX X t).length ≤ X.length := List.length_filter_le ..
theorem pA {α : Type} (p : α → Bool) : ∀ l : List α, (l.takeWhile p).length + (l.dropWhile p).length = l.length
  | [] => rfl
  | a :: l => by
    have := pA p l
    by_cases h : p a = true
    · simp only [List.takeWhile_cons, List.dropWhile_cons, if_pos h, ad]; omega
    · simp only [List.takeWhile_cons, List.dropWhile_cons, if_neg h, ad, aq]; omega
theorem rp (X : List TRC) (t : TRC) : (fl X t).length = X.length + 1 := by
  unfold fl
  have := pA (fun u : TRC => decide (bU u.1 t.1 < 0)) X
  rw [aj, ad]; omega
theorem qL (X : List TRC) (t : TRC) : (fR X t).length ≤ X.length + 1 := by
  unfold fR
  split
  · omega
  · rw [rp]; have := mO X t; omega
def plc (X : List TRC) (t : TRC) : Nat := (X.takeWhile (fun u => decide (bU u.1 t.1 < 0))).length
theorem qc (X : List TRC) (t : TRC) : plc X t ≤ X.length := by
  unfold plc; have := pA (fun u : TRC => decide (bU u.1 t.1 < 0)) X; omega
theorem sf (X : List TRC) (t : TRC) : X.take (plc X t) ++ t :: X.drop (plc X t) = fl X t := by
  have : ∀ (p : TRC → Bool) (l : List TRC), l.take (l.takeWhile p).length = l.takeWhile p ∧ l.drop (l.takeWhile p).length = l.dropWhile p := fun p l => by
    induction l with
    | nil => exact ⟨rfl, rfl⟩
    | cons a l ih =>
      by_cases h : p a = true
      · simp only [List.takeWhile_cons, List.dropWhile_cons, if_pos h, ad, am, List.drop_succ_cons]
        exact ⟨by rw [ih.1], ih.2⟩
      · simp only [List.takeWhile_cons, List.dropWhile_cons, if_neg h, aq, List.take_zero, List.drop_zero, and_self]
  unfold plc fl
  rw [(this _ X).1, (this _ X).2]
theorem tO {X : List TRC} {t : TRC} {k : Nat} (h : k < plc X t) : bU (X.getD k aQ).1 t.1 < 0 := by
  induction X generalizing k with
  | nil => exact absurd h (by simp [plc])
  | cons a X ih =>
    unfold plc at h
    by_cases q : bU a.1 t.1 < 0
    · simp only [List.takeWhile_cons, decide_eq_true q, if_true, ad] at h
      cases k with
      | zero => exact q
      | succ k => exact ih (by unfold plc; omega)
    · simp only [List.takeWhile_cons, decide_eq_false q] at h
      simp at h
theorem ue {X : List TRC} {t : TRC} (h : plc X t < X.length) : ¬ bU (X.getD (plc X t) aQ).1 t.1 < 0 := by
  induction X with
  | nil => simp at h
  | cons a X ih =>
    by_cases q : bU a.1 t.1 < 0
    · have e : plc (a :: X) t = plc X t + 1 := by unfold plc; simp only [List.takeWhile_cons, decide_eq_true q, if_true, ad]
      rw [e] at h ⊢
      exact ih (by simpa using h)
    · have e : plc (a :: X) t = 0 := by unfold plc; simp only [List.takeWhile_cons, decide_eq_false q]; rfl
      rw [e]; exact q
theorem iG {X : List TRC} (hs : SRT X) {i j : Nat} (hij : i < j) (hj : j < X.length) : bU (X.getD i aQ).1 (X.getD j aQ).1 < 0 := by
  have := List.pairwise_iff_getElem.1 hs i j (by omega) hj hij
  simpa [List.getD, show i < X.length by omega, hj] using this
theorem tV {X : List TRC} {t : TRC} (hs : SRT X) {i : Nat} (h : ∀ k, k < i → bU (X.getD k aQ).1 t.1 < 0) (hi : i ≤ X.length) (h2 : ∀ k, i ≤ k → k < X.length → ¬ bU (X.getD k aQ).1 t.1 < 0) : plc X t = i := by
  rcases Nat.lt_trichotomy (plc X t) i with q | q | q
  · exact absurd (h _ q) (ue (by omega))
  · exact q
  · exact absurd (tO q) (h2 i (Nat.le_refl _) (by have := qc X t; omega))
theorem m7 {X : List TRC} {t u : TRC} : u ∈ fl X t ↔ u = t ∨ u ∈ X := by
  unfold fl
  rw [List.mem_append, List.mem_cons]
  have : u ∈ X ↔ u ∈ X.takeWhile (fun u => decide (bU u.1 t.1 < 0)) ∨ u ∈ X.dropWhile (fun u => decide (bU u.1 t.1 < 0)) := by
    rw [← List.mem_append, List.takeWhile_append_dropWhile]
  rw [this]
  constructor
  · rintro (h | h | h)
    · exact .inr (.inl h)
    · exact .inl h
    · exact .inr (.inr h)
  · rintro (h | h | h)
    · exact .inr (.inl h)
    · exact .inl h
    · exact .inr (.inr h)
theorem mg {X : List TRC} {t u : TRC} : u ∈ dX X t ↔ u ∈ X ∧ pfB t.1 u.1 = false := by
  unfold dX; rw [List.mem_filter]; simp
theorem sX {X : List TRC} {t : TRC} (hs : SRT X) (hne : ∀ u ∈ X, u.1 ≠ t.1) : SRT (fl X t) := by
  induction X with
  | nil => exact List.pairwise_singleton ..
  | cons a X ih =>
    obtain ⟨h1, h2⟩ := List.pairwise_cons.1 hs
    by_cases q : bU a.1 t.1 < 0
    · have e : fl (a :: X) t = a :: fl X t := by unfold fl; simp only [List.takeWhile_cons, List.dropWhile_cons, decide_eq_true q, if_true, b0]
      rw [e]
      refine List.pairwise_cons.2 ⟨fun u hu => ?_, ih h2 fun u hu => hne u (aM _ hu)⟩
      rcases m7.1 hu with e | m
      · rw [e]; exact q
      · exact h1 u m
    · have e : fl (a :: X) t = t :: a :: X := by unfold fl; simp only [List.takeWhile_cons, List.dropWhile_cons, decide_eq_false q]; rfl
      rw [e]
      have hta : bU t.1 a.1 < 0 := by
        have h3 := rb a.1 t.1
        have h4 : ¬ bU a.1 t.1 = 0 := fun h => hne a (aO ..) (pN h)
        omega
      refine List.pairwise_cons.2 ⟨fun u hu => ?_, hs⟩
      rcases List.mem_cons.1 hu with e | m
      · rw [e]; exact hta
      · exact dW hta (h1 u m)
theorem tI {X : List TRC} {t : TRC} (h : fT X t = false) : (∀ u ∈ X, pfB u.1 t.1 = false) ∧ ¬ t.1.length = 0 := by
  unfold fT at h
  obtain ⟨h1, h2⟩ := Bool.or_eq_false_iff.1 h
  exact ⟨fun u hu => by simpa using List.any_eq_false.1 h1 u hu, of_decide_eq_false h2⟩
theorem sm {X : List TRC} {t : TRC} (h : fT X t = false) : ∀ u ∈ X, u.1 ≠ t.1 := fun u hu e => by
  have := (tI h).1 u hu
  rw [e, rt] at this; cases this
theorem rI {X : List TRC} {t : TRC} (hs : SRT X) : SRT (fR X t) := by
  unfold fR
  split
  · exact hs
  · rename_i h
    have h' : fT X t = false := by simpa using h
    exact sX (hs.filter _) fun u hu => sm h' u (mg.1 hu).1
theorem rZ {X : List TRC} {t u : TRC} (h : u ∈ fR X t) : u = t ∨ u ∈ X := by
  unfold fR at h
  split at h
  · exact .inr h
  · exact (m7.1 h).imp id fun h => (mg.1 h).1
def XK (X l : List TRC) (k : Nat) : List TRC := (l.take k).foldl fR X
def d9 (n : Int) (X l : List TRC) (k : Nat) : Int := eJ n (XK X l k) (l.getD k aQ)
theorem gm {X l : List TRC} {k : Nat} (h : k < l.length) : XK X l (k + 1) = fR (XK X l k) (l.getD k aQ) := by
  unfold XK
  have e : l.take (k + 1) = l.take k ++ [l.getD k aQ] := by rw [List.take_add_one, List.getElem?_eq_getElem h]; simp [List.getD, h]
  rw [e, List.foldl_append]; rfl
theorem mY {X l : List TRC} : ∀ {k : Nat}, k ≤ l.length → (XK X l k).length ≤ X.length + k
  | 0, _ => Nat.le_refl _
  | k + 1, h => by rw [gm (by omega)]; have := qL (XK X l k) (l.getD k aQ); have := mY (X := X) (l := l) (k := k) (by omega); omega
structure OBI (n : Int) (X : List TRC) : Prop where
  srt : SRT X
  pfr : PFR X
  pr : ∀ u ∈ X, prO n u = 0
theorem tL {n : Int} {X : List TRC} {t : TRC} (h : eJ n X t = 0) : prO n t = 0 ∧ gv X t = false := by
  unfold eJ at h
  by_cases q : prO n t = 0
  · refine ⟨q, ?_⟩
    rw [if_neg (fun k => k q)] at h
    cases hb : gv X t with
    | false => rfl
    | true => rw [hb] at h; cases h
  · rw [if_pos q] at h; exact absurd h q
theorem uk {n : Int} {X : List TRC} {t : TRC} (h : ¬ prO n t = 0) : eJ n X t = prO n t := if_pos h
theorem sq {n : Int} {X : List TRC} {t : TRC} (h : prO n t = 0) (h2 : gv X t = true) : eJ n X t = 13 := by unfold eJ; rw [if_neg (fun k => k h), if_pos h2]
theorem rJ {n : Int} {X : List TRC} {t : TRC} (h : prO n t = 0) (h2 : gv X t = false) : eJ n X t = 0 := by unfold eJ; rw [if_neg (fun k => k h), h2]; rfl
theorem tk {X : List TRC} {t : TRC} {k : Nat} (hk : k < X.length) (h : 0 ≤ dfO (X.getD k aQ) t) : gv X t = true :=
  List.any_eq_true.2 ⟨X.getD k aQ, by simp [List.getD, hk], decide_eq_true h⟩
theorem sk {X : List TRC} {t : TRC} (h : ∀ q, q < X.length → ¬ 0 ≤ dfO (X.getD q aQ) t) : gv X t = false :=
  List.any_eq_false.2 fun u hu => by
    obtain ⟨i, hi, e⟩ := List.getElem_of_mem hu
    have := h i hi
    simp [List.getD, hi, e] at this
    simpa using this
def io (X : List TRC) (t : TRC) (k : Nat) : Bool := (X.take k).any fun u => pfB u.1 t.1
theorem jR {X : List TRC} {t : TRC} {k : Nat} (h : k < X.length) : io X t (k + 1) = (io X t k || pfB (X.getD k aQ).1 t.1) := by
  unfold io
  have e : X.take (k + 1) = X.take k ++ [X.getD k aQ] := by rw [List.take_add_one, List.getElem?_eq_getElem h]; simp [List.getD, h]
  rw [e, List.any_append]; simp
theorem l8 (X : List TRC) (t : TRC) : fT X t = (io X t X.length || decide (t.1.length = 0)) := by unfold fT io; rw [az]
def dS (p : TRC → Bool) (xs : List TRC) : Int := match xs.findIdx? p with | some i => (i : Int) | none => -1
theorem ov {p : TRC → Bool} {xs : List TRC} {k : Nat} (hk : k < xs.length) (h : ∀ q, q < k → p (xs.getD q aQ) = false) (hp : p (xs.getD k aQ) = true) : dS p xs = k := by
  unfold dS
  have : xs.findIdx? p = some k := by
    rw [List.findIdx?_eq_some_iff_getElem]
    refine ⟨hk, by simpa [List.getD, hk] using hp, fun j hj => ?_⟩
    have := h j hj
    simpa [List.getD, show j < xs.length by omega] using this
  rw [this]
theorem lc {p : TRC → Bool} {xs : List TRC} (h : ∀ q, q < xs.length → p (xs.getD q aQ) = false) : dS p xs = -1 := by
  unfold dS
  have : xs.findIdx? p = none := by
    rw [List.findIdx?_eq_none_iff]
    intro x hx
    obtain ⟨i, hi, e⟩ := List.getElem_of_mem hx
    have := h i hi
    simpa [List.getD, hi, e] using this
  rw [this]
theorem i7 (p : TRC → Bool) (xs : List TRC) : (∃ k : Nat, dS p xs = (k : Int) ∧ k < xs.length ∧ (∀ q : Nat, q < k → p (xs.getD q aQ) = false) ∧ p (xs.getD k aQ) = true) ∨ (dS p xs = -1 ∧ ∀ q : Nat, q < xs.length → p (xs.getD q aQ) = false) := by
  cases h : xs.findIdx? p with
  | none =>
    refine .inr ⟨by unfold dS; rw [h], fun q hq => ?_⟩
    have := (List.findIdx?_eq_none_iff.1 h) xs[q] (List.getElem_mem hq)
    simpa [List.getD, hq] using this
  | some k =>
    obtain ⟨h1, h2, h3⟩ := List.findIdx?_eq_some_iff_getElem.1 h
    refine .inl ⟨k, by unfold dS; rw [h], h1, fun q hq => ?_, by simpa [List.getD, h1] using h2⟩
    have := h3 q hq
    simpa [List.getD, show q < xs.length by omega] using this
theorem oY {p : TRC → Bool} {xs : List TRC} (h : dS p xs = -1) : xs.filter (fun u => !p u) = xs := by
  rcases i7 p xs with ⟨k, e, _⟩ | ⟨_, h2⟩
  · omega
  · refine List.filter_eq_self.2 fun x hx => ?_
    obtain ⟨i, hi, e⟩ := List.getElem_of_mem hx
    have := h2 i hi
    simp [List.getD, hi, e] at this
    simp [this]
structure KEP (p : TRC → Bool) (xs R : List TRC) (i j : Nat) : Prop where
  l : R.length = xs.length
  kk : R.take i = (xs.take j).filter fun u => !p u
  d : R.drop j = xs.drop j
  ij : i < j
  jl : j ≤ xs.length
theorem KEP.start {p : TRC → Bool} {xs : List TRC} {k : Nat} (h : dS p xs = (k : Int)) : KEP p xs xs k (k + 1) := by
  rcases i7 p xs with ⟨k', e, h1, h2, h3⟩ | ⟨e, _⟩
  · have hkk : k' = k := by omega
    rw [hkk] at h1 h2 h3
    refine ⟨rfl, ?_, rfl, by omega, by omega⟩
    have e : xs.take (k + 1) = xs.take k ++ [xs.getD k aQ] := by rw [List.take_add_one, List.getElem?_eq_getElem h1]; simp [List.getD, h1]
    have e2 : (xs.take k).filter (fun u => !p u) = xs.take k := by
      refine List.filter_eq_self.2 fun x hx => ?_
      obtain ⟨i, hi, e⟩ := List.getElem_of_mem hx
      rw [List.length_take] at hi
      have := h2 i (by omega)
      rw [List.getElem_take] at e
      simp [List.getD, show i < xs.length by omega, e] at this
      simp [this]
    rw [e, List.filter_append, e2, List.filter_cons, if_neg (by rw [h3]; decide)]
    simp
  · omega
theorem KEP.at_ {p : TRC → Bool} {xs R : List TRC} {i j : Nat} (h : KEP p xs R i j) (hj : j < xs.length) : R.getD j aQ = xs.getD j aQ := by
  have := congrArg (fun l => l.getD 0 aQ) h.d
  simpa [List.getD, List.getElem?_drop] using this
theorem KEP.no {p : TRC → Bool} {xs R : List TRC} {i j : Nat} (h : KEP p xs R i j) (hj : j < xs.length) (hp : p (xs.getD j aQ) = true) : KEP p xs R i (j + 1) := by
  have e : xs.take (j + 1) = xs.take j ++ [xs.getD j aQ] := by rw [List.take_add_one, List.getElem?_eq_getElem hj]; simp [List.getD, hj]
  refine ⟨h.l, ?_, ?_, by have := h.ij; omega, by omega⟩
  · rw [e, List.filter_append, h.kk, List.filter_cons, if_neg (by rw [hp]; decide)]; simp
  · have := congrArg (List.drop 1) h.d
    rwa [List.drop_drop, List.drop_drop] at this
theorem KEP.yes {p : TRC → Bool} {xs R : List TRC} {i j : Nat} (h : KEP p xs R i j) (hj : j < xs.length) (hp : p (xs.getD j aQ) = false) : KEP p xs (R.set i (xs.getD j aQ)) (i + 1) (j + 1) := by
  have e : xs.take (j + 1) = xs.take j ++ [xs.getD j aQ] := by rw [List.take_add_one, List.getElem?_eq_getElem hj]; simp [List.getD, hj]
  have hl := h.l
  have hij := h.ij
  refine ⟨by rw [List.length_set]; exact hl, ?_, ?_, by omega, by omega⟩
  · rw [e, List.filter_append, ← h.kk]
    have : (R.set i (xs.getD j aQ)).take (i + 1) = R.take i ++ [xs.getD j aQ] := by
      rw [List.take_add_one, List.take_set_of_le (Nat.le_refl _)]
      simp [List.getElem?_set, show i < R.length by omega]
    rw [this]
    have hp' : (!p (xs.getD j aQ)) = true := by rw [hp]; rfl
    rw [List.filter_cons, if_pos hp']
    rfl
  · rw [List.drop_set_of_lt (by omega)]
    have := congrArg (List.drop 1) h.d
    rwa [List.drop_drop, List.drop_drop] at this
theorem KEP.end_ {p : TRC → Bool} {xs R : List TRC} {i j : Nat} (h : KEP p xs R i j) (hj : j = xs.length) : R.take i = xs.filter fun u => !p u := by
  rw [h.kk, hj, az]
def dlv (v : Nat) (xs : List TRC) (t : TRC) : Nat := if dS (fun u => pfB t.1 u.1) xs = -1 then v else v + 1
def adv (v : Nat) (xs : List TRC) (t : TRC) : Nat := if fT xs t then v else dlv v xs t + 1
theorem uF {v : Nat} {xs : List TRC} {t : TRC} (h : dS (fun u => pfB t.1 u.1) xs = -1) : dlv v xs t = v ∧ dX xs t = xs := ⟨if_pos h, oY h⟩
theorem tH {v : Nat} {xs : List TRC} {t : TRC} (h : ¬ dS (fun u => pfB t.1 u.1) xs = -1) : dlv v xs t = v + 1 := if_neg h
theorem uD {v : Nat} {xs : List TRC} {t : TRC} (h : fT xs t = true) : adv v xs t = v ∧ fR xs t = xs := ⟨if_pos h, if_pos h⟩
theorem ud {v : Nat} {xs : List TRC} {t : TRC} (h : fT xs t = false) : adv v xs t = dlv v xs t + 1 ∧ fR xs t = (dX xs t).take (plc (dX xs t) t) ++ t :: (dX xs t).drop (plc (dX xs t) t) := by
  refine ⟨if_neg (by rw [h]; decide), ?_⟩
  rw [sf]
  exact if_neg (by rw [h]; decide)
theorem sJ {X : List TRC} {t : TRC} (hs : SRT X) : SRT (dX X t) := hs.filter _
theorem oe {n : Int} {t : TRC} (h : prO n t = 0) : t.1.length ≤ 1024 ∧ t.2.1.length ≤ 1024 := by
  obtain ⟨h1, h2⟩ := ua h
  have := (eS h1).len
  omega
theorem qk {X l : List TRC} : ∀ {k : Nat}, k ≤ l.length → ∀ u ∈ XK X l k, u ∈ X ∨ ∃ q, q < k ∧ u = l.getD q aQ
  | 0, _, u, hu => .inl hu
  | k + 1, hk, u, hu => by
    rw [gm (by omega)] at hu
    rcases rZ hu with e | hu
    · exact .inr ⟨k, by omega, e⟩
    · rcases qk (k := k) (by omega) u hu with h | ⟨q, hq, e⟩
      · exact .inl h
      · exact .inr ⟨q, by omega, e⟩
theorem nn {X l : List TRC} (hs : SRT X) : ∀ {k : Nat}, k ≤ l.length → SRT (XK X l k)
  | 0, _ => hs
  | k + 1, hk => by rw [gm (by omega)]; exact rI (nn hs (by omega))
def LB (B : Nat) (X : List TRC) : Prop := ∀ u ∈ X, u.1.length ≤ B ∧ u.2.1.length ≤ B
theorem s7 {n : Int} {X l : List TRC} (h : LB 100000 X) {k : Nat} (hk : k ≤ l.length) (hq : ∀ q, q < k → d9 n X l q = 0) : LB 100000 (XK X l k) := fun u hu => by
  rcases qk hk u hu with h1 | ⟨q, hq1, e⟩
  · exact h u h1
  · have := oe (tL (hq q hq1)).1
    rw [e]; omega
theorem LB.get {B : Nat} {X : List TRC} (h : LB B X) {k : Nat} (hk : k < X.length) {a b : List Int} (e : X.getD k aQ = (a, (b, ()))) : a.length ≤ B ∧ b.length ≤ B := by
  have := h (X.getD k aQ) (by simp [List.getD, hk])
  rw [e] at this; exact this
def hY (n : Int) (X l : List TRC) : Int := bP (d9 n X l) l.length
def jO (n : Int) (X l : List TRC) : List TRC := if hY n X l = 0 then XK X l l.length else X
theorem iH {n : Int} {X l : List TRC} {k : Nat} (hk : k < l.length) (hq : ∀ q, q < k → d9 n X l q = 0) (hb : ¬ d9 n X l k = 0) : hY n X l = d9 n X l k ∧ jO n X l = X := by
  have e : hY n X l = d9 n X l k := dJ hq hk hb
  exact ⟨e, if_neg (by rw [e]; exact hb)⟩
theorem nc {n : Int} {X l : List TRC} (hq : ∀ q, q < l.length → d9 n X l q = 0) : hY n X l = 0 ∧ jO n X l = XK X l l.length := by
  have e : hY n X l = 0 := cO hq
  exact ⟨e, if_pos e⟩
theorem sl (n : Int) (X : List TRC) (t : TRC) : hY n X [t] = eJ n X t ∧ jO n X [t] = if eJ n X t = 0 then fR X t else X := by
  have h0 : d9 n X [t] 0 = eJ n X t := rfl
  by_cases h : eJ n X t = 0
  · obtain ⟨e1, e2⟩ := nc (n := n) (X := X) (l := [t]) (fun q hq => by
      have : q = 0 := by simpa using hq
      subst this; exact h0.trans h)
    rw [e1, e2, if_pos h]
    exact ⟨h.symm, rfl⟩
  · obtain ⟨e1, e2⟩ := iH (n := n) (X := X) (l := [t]) (k := 0) (by simp) (fun q hq => by omega) (fun q => h (h0.symm.trans q))
    rw [e1, e2, if_neg h]
    exact ⟨h0, rfl⟩
def jM (f : Nat → Int) : Nat → Int
  | 0 => 0
  | n + 1 => if bP f n = 0 then (if f n = 0 then 0 else (n : Int)) else jM f n
theorem pv {f : Nat → Int} : ∀ {n : Nat}, (∀ i, i < n → f i = 0) → jM f n = 0
  | 0, _ => rfl
  | n + 1, h => by
    have e : bP f n = 0 := cO fun i hi => h i (by omega)
    rw [jM, if_pos e, if_pos (h n (by omega))]
theorem o8 {f : Nat → Int} {k : Nat} (h : ∀ i, i < k → f i = 0) (hf : ¬ f k = 0) : ∀ {n : Nat}, k < n → jM f n = k
  | n + 1, hn => by
    by_cases e : k = n
    · subst e
      rw [jM, if_pos (cO h), if_neg hf]
    · rw [jM, if_neg (by rw [dJ h (show k < n by omega) hf]; exact hf)]
      exact o8 h hf (by omega)
theorem jT {l : List TRC} {k : Nat} (h : k < l.length) : l.take (k + 1) = l.take k ++ [l.getD k aQ] := by rw [List.take_add_one, List.getElem?_eq_getElem h]; simp [List.getD, h]
/-plain-/
theorem u9 {P : List Bs} {k : Nat} {r : Bs} (h : spB 10 r = P.drop k) (hk : k + 1 ≤ P.length) : dB r 10 = P.getD k [] ∧ nL r 10 = decide (k + 1 < P.length) ∧ (k + 1 < P.length → spB 10 (cW r 10) = P.drop (k + 1)) := by
  by_cases q : k + 1 < P.length
  · obtain ⟨h1, h2, h3, h4⟩ := kO h q
    obtain ⟨e1, e2, e3⟩ := ly (s := r) (c := 10) h1
    rw [e1, e2, e3]
    exact ⟨h2, (decide_eq_true q).symm, fun _ => h3⟩
  · obtain ⟨h1, _⟩ := gM h (by omega)
    have h2 : ¬ 0 ≤ Lib.indexByte r 10 := by
      intro q2
      have h3 := gO q2
      have h4 := fq 10 (r.drop ((Lib.indexByte r 10).toNat + 1))
      rw [h] at h3
      have h5 := congrArg List.length h3
      rw [List.length_drop] at h5
      simp only [ad] at h5
      omega
    obtain ⟨e1, e2, e3⟩ := pl (s := r) (c := 10) h2
    rw [e1, e3]
    exact ⟨h1, (decide_eq_false q).symm, fun q2 => absurd q2 q⟩
theorem iz {P : List Bs} {k : Nat} {r : Bs} (h : spB 10 r = P.drop k) (hr : r = []) (hk : k + 1 ≤ P.length) : k + 1 = P.length ∧ P.getD k [] = [] := by
  subst hr
  have h1 := congrArg List.length h
  rw [List.length_drop] at h1
  simp only [spB, ad, aq] at h1
  refine ⟨by omega, ?_⟩
  have h2 := (gM h (by omega)).1
  exact h2.symm
theorem sG {xs ys : List Bs} {P : List Bs} {k : Nat} {R : List TRC} (hk : k + 1 ≤ P.length) (hl : k + 1 = P.length → ¬ P.getD k [] = [])
    (h : P.length ≤ k + 1 ∨ ¬ skL (P.getD k []) ∧ [] ∈ spB 32 (P.getD k [])) : PGL xs ys (P.drop k) k R = ([], (k : Int) + 1, 5) := by
  by_cases q : k + 1 < P.length
  · rcases h with h | ⟨h1, h2⟩
    · omega
    · rw [bj q h1 (by rw [dA h2]; decide), dA h2]
  · rw [br (by omega), if_neg (hl (by omega))]
theorem sZ {l : Bs} {k n : Nat} (h : ¬ k + 1 < n ∨ (¬ l = [] ∧ ¬ ((l.getD 0 0).toNat : Int) = 35) ∧ ((((l.getD 0 0).toNat : Int) = 32 ∨ dF l [32] = true) ∨ Lib.contains l [32, 32] = true)) : n ≤ k + 1 ∨ ¬ skL l ∧ [] ∈ spB 32 l := by
  rcases h with h | ⟨⟨h1, h2⟩, h3⟩
  · exact .inl (by omega)
  · refine .inr ⟨fun q => q.elim h1 fun e => h2 (lh.2 e), (oI h1).2 (h3.imp (fun q => q.imp (fun e => (mU (s := l) (k := 0)).1 e) id) id)⟩
theorem ui {l : Bs} (hs : ¬ l = [] ∧ ¬ ((l.getD 0 0).toNat : Int) = 35) (h : (l = [] ∨ ((l.getD 0 0).toNat : Int) = 35) ∨ (¬ ((l.getD 0 0).toNat : Int) = 32 ∧ dF l [32] = false) ∧ Lib.contains l [32, 32] = false) : [] ∉ spB 32 l := by
  rcases h with h | ⟨⟨h1, h2⟩, h3⟩
  · exact absurd h (fun q => q.elim hs.1 hs.2)
  · intro hm
    rcases (oI hs.1).1 hm with (q | q) | q
    · exact h1 ((mU (s := l) (k := 0)).2 q)
    · rw [h2] at q; cases q
    · rw [h3] at q; cases q
/-plain-/
def hF (h : PP → PP) (l : List W3) : List PP := l.map fun e => h e.1
structure HOM (A B : STP) (n : Nat) (I : PP → Prop) (h : PP → PP) : Prop where
  cl : ∀ p, I p → ∀ x, x < n → I (A p x)
  eq : ∀ p, I p → ∀ x, x < n → B (h p) x = h (A p x)
/-plain-/
theorem oV {l : List TRC} {k : Nat} (h : k < l.length) : l.getD k aQ ∈ l := by simp [List.getD, List.getElem?_eq_getElem h]
/-plain-/
theorem rG {p : Bs} (h : Lib.countByte p 47 = 1) : spB 47 p = [dB p 47, cW p 47] := by
  have hl := fj 47 p
  rw [h] at hl
  rcases (show Lib.indexByte p 47 < 0 ∨ 0 ≤ Lib.indexByte p 47 by omega) with q | q
  · rw [fH (gQ q)] at hl; simp at hl
  · have h1 := gO (s := p) (c := 47) q
    obtain ⟨e1, e2, _⟩ := ly (s := p) (c := 47) q
    rw [e1, e2, h1]
    rw [h1] at hl
    simp only [ad] at hl
    have h2 : (spB 47 (p.drop ((Lib.indexByte p 47).toNat + 1))).length = 1 := by omega
    have hn : (47 : UInt8) ∉ p.drop ((Lib.indexByte p 47).toNat + 1) := by
      intro hm
      rcases (show Lib.indexByte (p.drop ((Lib.indexByte p 47).toNat + 1)) 47 < 0 ∨ 0 ≤ Lib.indexByte (p.drop ((Lib.indexByte p 47).toNat + 1)) 47 by omega) with q2 | q2
      · exact gQ q2 hm
      · have h3 := gO q2
        have h4 := fq 47 ((p.drop ((Lib.indexByte p 47).toNat + 1)).drop ((Lib.indexByte (p.drop ((Lib.indexByte p 47).toNat + 1)) 47).toNat + 1))
        rw [h3] at h2
        simp only [ad] at h2
        omega
    rw [fH hn]
/-plain-/
def st1 (xs ys : List Bs) (a o : Int) : Bs := xs.getD a.toNat [] ++ 47 :: ys.getD o.toNat []
def eH (xs ys : List Bs) (t : TRC) : List Bs := (List.range t.1.length).map fun i => st1 xs ys (t.1.getD i 0) (t.2.1.getD i 0)
def stP (xs ys : List Bs) (t : TRC) : Nat → Bs
  | 0 => []
  | i + 1 => stP xs ys t i ++ (if 0 < i then [32] else []) ++ st1 xs ys (t.1.getD i 0) (t.2.1.getD i 0)
def lnT (xs ys : List Bs) (t : TRC) : Bs := stP xs ys t t.1.length
def fU (xs ys : List Bs) (l : List TRC) : Bs := dj (l.map (lnT xs ys))
def dZ (xs ys : List Bs) (l : List TRC) : Int := if ¬ cm xs ys = 0 then cm xs ys else if 10000 < l.length then 11 else if ¬ bP (fun i => co xs.length ys.length (l.getD i aQ)) l.length = 0 then bP (fun i => co xs.length ys.length (l.getD i aQ)) l.length else if 1048576 < (fU xs ys l).length then 3 else 0
def kU (xs ys : List Bs) (l : List TRC) : Bs := if dZ xs ys l = 0 then fU xs ys l else []
theorem ro (xs ys : List Bs) (t : TRC) : (eH xs ys t).length = t.1.length := by unfold eH; simp
theorem jV (sep y : Bs) : ∀ (w : Bs) (ws : List Bs), Lib.join (w :: ws ++ [y]) sep = Lib.join (w :: ws) sep ++ sep ++ y
  | w, [] => by
    show Lib.join [w, y] sep = _
    rw [gl, Lib.join_cons, Lib.join_cons]; simp [Lib.joinTail]
  | w, v :: ws => by
    show Lib.join (w :: v :: (ws ++ [y])) sep = _
    rw [gl, gl]
    have := jV sep y v ws
    rw [b0] at this
    rw [this]
    simp [List.append_assoc]
theorem mF (xs ys : List Bs) (t : TRC) : ∀ i, stP xs ys t i = Lib.join ((List.range i).map fun j => st1 xs ys (t.1.getD j 0) (t.2.1.getD j 0)) [32]
  | 0 => rfl
  | 1 => by
    show [] ++ (if 0 < 0 then [32] else []) ++ st1 xs ys (t.1.getD 0 0) (t.2.1.getD 0 0) = Lib.join [st1 xs ys (t.1.getD 0 0) (t.2.1.getD 0 0)] [32]
    rw [Lib.join_cons]; simp [Lib.joinTail]
  | i + 2 => by
    have ih := mF xs ys t (i + 1)
    show stP xs ys t (i + 1) ++ (if 0 < i + 1 then [32] else []) ++ _ = _
    rw [ih, if_pos (by omega), show List.range (i + 2) = List.range (i + 1) ++ [i + 1] from List.range_succ, List.map_append]
    obtain ⟨w, ws, e⟩ : ∃ w ws, (List.range (i + 1)).map (fun j => st1 xs ys (t.1.getD j 0) (t.2.1.getD j 0)) = w :: ws := by
      rw [List.range_succ_eq_map]; exact ⟨_, _, rfl⟩
    rw [e]
    exact (jV [32] _ w ws).symm
theorem jp (xs ys : List Bs) (t : TRC) : lnT xs ys t = Lib.join (eH xs ys t) [32] := mF xs ys t _
theorem kW {s : Bs} (h : cf s = true) : (47 : UInt8) ∉ s := fun hm => by
  have := (cL h).1 _ hm
  exact absurd this (by decide)
theorem ixc {c : UInt8} : ∀ {l s : Bs}, c ∉ l → Lib.indexByte (l ++ c :: s) c = l.length := fun {l s} h => by
  have h1 : 0 ≤ Lib.indexByte (l ++ c :: s) c := by
    rcases (show Lib.indexByte (l ++ c :: s) c < 0 ∨ 0 ≤ Lib.indexByte (l ++ c :: s) c by omega) with q | q
    · exact absurd (show c ∈ l ++ c :: s by simp) (gQ q)
    · exact q
  obtain ⟨h2, h3, h4⟩ := gi h1
  have h5 := gE (c := c) s h
  have h6 := gO h1
  rw [h5] at h6
  have h7 := (List.cons.inj h6).1
  have h8 := congrArg List.length h7
  rw [List.length_take] at h8
  omega
theorem uh {x y : Bs} (hx : (47 : UInt8) ∉ x) (hy : (47 : UInt8) ∉ y) : Lib.countByte (x ++ 47 :: y) 47 = 1 ∧ dB (x ++ 47 :: y) 47 = x ∧ cW (x ++ 47 :: y) 47 = y := by
  have h1 : Lib.indexByte (x ++ 47 :: y) 47 = x.length := ixc hx
  have h2 := fj 47 (x ++ 47 :: y)
  rw [gE y hx, fH hy] at h2
  obtain ⟨e1, e2, _⟩ := ly (s := x ++ 47 :: y) (c := 47) (by omega)
  refine ⟨by simpa using h2.symm, ?_, ?_⟩
  · rw [e1, h1, af, List.take_left']; rfl
  · rw [e2, h1, af, List.drop_append]
    simp
theorem lS {xs ys : List Bs} (hx : AOK xs) (hy : AOK ys) {a o : Int} (ha : 0 ≤ a ∧ a < xs.length) (ho : 0 ≤ o ∧ o < ys.length) :
    da xs ys (st1 xs ys a o) = 0 ∧ idA xs (dB (st1 xs ys a o) 47) = a ∧ idA ys (cW (st1 xs ys a o) 47) = o ∧ ((32 : UInt8) ∉ st1 xs ys a o ∧ (10 : UInt8) ∉ st1 xs ys a o) ∧ (st1 xs ys a o ≠ [] ∧ (st1 xs ys a o).getD 0 0 ≠ 35) ∧ (st1 xs ys a o).length ≤ 65 := by
  have nx := hx.nm a.toNat (by omega); have ny := hy.nm o.toNat (by omega)
  obtain ⟨c1, c2, c3⟩ := uh (kW nx) (kW ny)
  have mx : xs.getD a.toNat [] ∈ xs := dh (by omega)
  have my : ys.getD o.toNat [] ∈ ys := dh (by omega)
  have sx := cL nx; have sy := cL ny
  refine ⟨iL c1 ⟨by unfold st1; rw [c2]; exact mx, by unfold st1; rw [c3]; exact my⟩, ?_, ?_, ⟨?_, ?_⟩, ⟨?_, ?_⟩, ?_⟩
  · unfold st1 idA; rw [c2, if_pos mx, hx.pos (by omega)]; omega
  · unfold st1 idA; rw [c3, if_pos my, hy.pos (by omega)]; omega
  · unfold st1; rw [List.mem_append, List.mem_cons]; rintro (h | h | h)
    · exact l9 nx h
    · cases h
    · exact l9 ny h
  · unfold st1; rw [List.mem_append, List.mem_cons]; rintro (h | h | h)
    · exact lz nx h
    · cases h
    · exact lz ny h
  · unfold st1; simp
  · have := sF nx
    unfold st1
    cases hq : xs.getD a.toNat [] with
    | nil => rw [hq] at sx; simp at sx
    | cons b r => rw [hq] at this; simpa using this
  · unfold st1; rw [aj, ad]; omega
theorem gp {n m : Int} {t : TRC} (h : co n m t = 0) : 1 ≤ t.1.length ∧ bv t.1 n = 0 ∧ t.2.1.length = t.1.length ∧ ∀ i, i < t.2.1.length → 0 ≤ t.2.1.getD i 0 ∧ t.2.1.getD i 0 < m := by
  unfold co at h
  split at h
  · cases h
  · rename_i h0
    split at h
    · rename_i h1; exact absurd h h1
    · rename_i h1
      split at h
      · cases h
      · rename_i h2
        split at h
        · cases h
        · rename_i h3
          refine ⟨by omega, by simpa using h1, by omega, fun i hi => ?_⟩
          exact Decidable.byContradiction fun hb => h3 ⟨i, hi, hb⟩
theorem js {xs ys : List Bs} (hx : AOK xs) (hy : AOK ys) {t : TRC} (h : co xs.length ys.length t = 0) {y : Bs} (hm : y ∈ eH xs ys t) : ((32 : UInt8) ∉ y ∧ (10 : UInt8) ∉ y) ∧ (y ≠ [] ∧ y.getD 0 0 ≠ 35) ∧ y.length ≤ 65 := by
  obtain ⟨h1, h2, h3, h4⟩ := gp h
  unfold eH at hm
  obtain ⟨i, hi, rfl⟩ := List.mem_map.1 hm
  have hi := List.mem_range.1 hi
  exact (lS hx hy ((eS h2).sym i hi) (h4 i (by omega))).2.2.2
theorem rN {xs ys : List Bs} (hx : AOK xs) (hy : AOK ys) {t : TRC} (h : co xs.length ys.length t = 0) : spB 32 (lnT xs ys t) = eH xs ys t ∧ (10 : UInt8) ∉ lnT xs ys t ∧ ¬ skL (lnT xs ys t) ∧ eZ xs ys (lnT xs ys t) = 0 ∧ eY xs ys (lnT xs ys t) = t := by
  obtain ⟨h1, h2, h3, h4⟩ := gp h
  have hw := eS h2
  have hl := ro xs ys t
  obtain ⟨w, ws, e⟩ : ∃ w ws, eH xs ys t = w :: ws := by
    cases q : eH xs ys t with
    | nil => rw [q] at hl; simp at hl; omega
    | cons w ws => exact ⟨w, ws, rfl⟩
  have hs : spB 32 (lnT xs ys t) = eH xs ys t := by
    rw [jp, e]
    exact ln fun y hy' => (js hx hy h (by rw [e]; exact hy')).1.1
  have hg : ∀ i, i < t.1.length → (eH xs ys t).getD i [] = st1 xs ys (t.1.getD i 0) (t.2.1.getD i 0) := fun i hi => by
    unfold eH; simp [List.getD, hi]
  have hE : eZ xs ys (lnT xs ys t) = 0 := by
    refine dP (by rw [hs, hl]; have := hw.len; omega) fun q hq => ?_
    rw [hs] at hq ⊢
    rw [hg q (by omega)]
    exact (lS hx hy (hw.sym q (by omega)) (h4 q (by omega))).1
  refine ⟨hs, ?_, ?_, hE, ?_⟩
  · rw [jp]
    intro hm
    have : ∀ (ws : List Bs), (∀ y, y ∈ ws → (10 : UInt8) ∉ y) → (10 : UInt8) ∉ Lib.join ws [32] := fun ws => by
      induction ws with
      | nil => intro _ hm; cases hm
      | cons w ws ih =>
        intro hq hm
        cases ws with
        | nil =>
          rw [Lib.join_cons] at hm
          simp [Lib.joinTail] at hm
          exact hq w (aO ..) hm
        | cons v ws =>
          rw [gl] at hm
          rcases List.mem_append.1 hm with hm | hm
          · rcases List.mem_append.1 hm with hm | hm
            · exact hq w (aO ..) hm
            · simp at hm
          · exact ih (fun y hy => hq y (aM _ hy)) hm
    exact this _ (fun y hy' => (js hx hy h hy').1.2) hm
  · have hm := js hx hy h (y := w) (by rw [e]; exact aO ..)
    rw [jp, e, Lib.join_cons]
    rintro (hk | hk)
    · exact hm.2.1.1 (List.append_eq_nil_iff.1 hk).1
    · cases w with
      | nil => exact hm.2.1.1 rfl
      | cons b r => exact hm.2.1.2 (by simpa using hk)
  · rw [dY hE, hs]
    obtain ⟨a, o, u⟩ := t
    have e1 : eO xs (eH xs ys (a, o, u)) = a := by
      unfold eO eH
      rw [List.map_map]
      refine List.ext_getElem (by simp) fun i hi1 hi2 => ?_
      have := (lS hx hy (hw.sym i hi2) (h4 i (by show i < o.length; have h9 : o.length = a.length := h3; omega))).2.1
      simp only [List.getElem_map, List.getElem_range, Function.comp]
      rw [this]; simp [List.getD, hi2]
    have e2 : eT ys (eH xs ys (a, o, u)) = o := by
      unfold eT eH
      rw [List.map_map]
      refine List.ext_getElem (by simpa using h3.symm) fun i hi1 hi2 => ?_
      have := (lS hx hy (hw.sym i (by have h9 : o.length = a.length := h3; show i < a.length; omega)) (h4 i hi2)).2.2.1
      simp only [List.getElem_map, List.getElem_range, Function.comp]
      rw [this]; simp [List.getD, hi2]
    rw [e1, e2]
theorem oQ {xs ys : List Bs} (h : cm xs ys = 0) : AOK xs ∧ AOK ys := by
  unfold cm at h
  split at h
  · rename_i h1; exact ⟨pY h1, pY h⟩
  · rename_i h1; exact absurd h h1
structure ShOK (xs ys : List Bs) (l : List TRC) : Prop where
  b : cm xs ys = 0
  n : l.length ≤ 10000
  p : ∀ i, i < l.length → co xs.length ys.length (l.getD i aQ) = 0
  z : (fU xs ys l).length ≤ 1048576
theorem ShOK.e {xs ys : List Bs} {l : List TRC} (h : ShOK xs ys l) : dZ xs ys l = 0 ∧ kU xs ys l = fU xs ys l := by
  have e : dZ xs ys l = 0 := by
    have h1 : bP (fun i => co xs.length ys.length (l.getD i aQ)) l.length = 0 := cO h.p
    unfold dZ
    rw [if_neg (fun k => k h.b), if_neg (by have := h.n; omega), if_neg (fun k => k h1), if_neg (by have := h.z; omega)]
  exact ⟨e, if_pos e⟩
theorem ShOK.lines {xs ys : List Bs} {l : List TRC} (h : ShOK xs ys l) : ∀ y, y ∈ l.map (lnT xs ys) → (10 : UInt8) ∉ y := fun y hy => by
  obtain ⟨t, ht, rfl⟩ := List.mem_map.1 hy
  obtain ⟨i, hi, e⟩ := List.getElem_of_mem ht
  have h1 := h.p i hi
  have : l.getD i aQ = t := by simp [List.getD, hi, e]
  rw [this] at h1
  obtain ⟨hx, hy⟩ := oQ h.b
  exact (rN hx hy h1).2.1
theorem ShOK.all {xs ys : List Bs} {l : List TRC} (h : ShOK xs ys l) : ∀ t, t ∈ l → co xs.length ys.length t = 0 := fun t ht => by
  obtain ⟨i, hi, e⟩ := List.getElem_of_mem ht
  have h1 := h.p i hi
  have : l.getD i aQ = t := by simp [List.getD, hi, e]
  rw [this] at h1; exact h1
/-plain-/
def d8 (xs ys : List Bs) (l : List TRC) (k : Nat) : Bs := dj ((l.take k).map (lnT xs ys))
theorem lR {xs ys : List Bs} {l : List TRC} {k : Nat} (h : k < l.length) : d8 xs ys l (k + 1) = d8 xs ys l k ++ lnT xs ys (l.getD k aQ) ++ [10] := by
  unfold d8; rw [jT h, List.map_append]; exact oa _ _
theorem qS (xs ys : List Bs) (l : List TRC) : d8 xs ys l l.length = fU xs ys l := by unfold d8 fU; rw [az]
theorem gD (xs ys : List Bs) (l : List TRC) (k : Nat) : (d8 xs ys l k).length ≤ (fU xs ys l).length := by
  unfold d8 fU; rw [List.map_take]; exact lI _ _
theorem pI (xs ys : List Bs) (t : TRC) (i : Nat) : stP xs ys t (i + 1) = stP xs ys t i ++ (if 0 < i then [32] else []) ++ st1 xs ys (t.1.getD i 0) (t.2.1.getD i 0) := rfl
theorem j5 {xs ys : List Bs} (hx : AOK xs) (hy : AOK ys) {t : TRC} (h : co xs.length ys.length t = 0) : ∀ {j : Nat}, j ≤ t.1.length → (stP xs ys t j).length ≤ 66 * j
  | 0, _ => Nat.le_refl _
  | j + 1, hj => by
    have ih := j5 hx hy h (j := j) (by omega)
    obtain ⟨h1, h2, h3, h4⟩ := gp h
    have h5 := (lS hx hy ((eS h2).sym j (by omega)) (h4 j (by omega))).2.2.2.2.2
    rw [pI, aj, aj]
    split
    · simp only [ad, aq]; omega
    · simp only [aq]; omega
theorem mG {xs ys : List Bs} (hx : AOK xs) (hy : AOK ys) {l : List TRC} : ∀ {k : Nat}, k ≤ l.length → (∀ q, q < k → co xs.length ys.length (l.getD q aQ) = 0) → (d8 xs ys l k).length ≤ 67585 * k
  | 0, _, _ => Nat.le_refl _
  | k + 1, hk, hq => by
    have ih := mG hx hy (l := l) (k := k) (by omega) fun q hq2 => hq q (by omega)
    have hp := hq k (by omega)
    have h1 := j5 hx hy hp (Nat.le_refl _)
    have h2 := (eS (gp hp).2.1).len
    rw [lR (by omega), aj, aj]
    have h3 : (lnT xs ys (l.getD k aQ)).length ≤ 66 * (l.getD k aQ).1.length := h1
    simp only [ad, aq]
    omega
theorem kA {xs ys : List Bs} {l : List TRC} (h : ¬ cm xs ys = 0) : dZ xs ys l = cm xs ys ∧ kU xs ys l = [] := by
  have e : dZ xs ys l = cm xs ys := if_pos h
  exact ⟨e, if_neg (by rw [e]; exact h)⟩
theorem iw {xs ys : List Bs} {l : List TRC} (h : cm xs ys = 0) (h2 : 10000 < l.length) : dZ xs ys l = 11 ∧ kU xs ys l = [] := by
  have e : dZ xs ys l = 11 := by unfold dZ; rw [if_neg (fun k => k h), if_pos h2]
  exact ⟨e, if_neg (by rw [e]; decide)⟩
theorem kF {xs ys : List Bs} {l : List TRC} (h : cm xs ys = 0) (h2 : ¬ 10000 < l.length) {k : Nat} (hk : k < l.length) (hq : ∀ q, q < k → co xs.length ys.length (l.getD q aQ) = 0) (hb : ¬ co xs.length ys.length (l.getD k aQ) = 0) :
    dZ xs ys l = co xs.length ys.length (l.getD k aQ) ∧ kU xs ys l = [] := by
  have h3 := dJ (f := fun i => co xs.length ys.length (l.getD i aQ)) hq hk hb
  have e : dZ xs ys l = co xs.length ys.length (l.getD k aQ) := by unfold dZ; rw [if_neg (fun k => k h), if_neg h2, if_pos (by rw [h3]; exact hb), h3]
  exact ⟨e, if_neg (by rw [e]; exact hb)⟩
theorem lP {xs ys : List Bs} {l : List TRC} (h : cm xs ys = 0) (h2 : ¬ 10000 < l.length) (hq : ∀ q, q < l.length → co xs.length ys.length (l.getD q aQ) = 0) (hz : 1048576 < (fU xs ys l).length) : dZ xs ys l = 3 ∧ kU xs ys l = [] := by
  have h3 : bP (fun i => co xs.length ys.length (l.getD i aQ)) l.length = 0 := cO hq
  have e : dZ xs ys l = 3 := by unfold dZ; rw [if_neg (fun k => k h), if_neg h2, if_neg (fun k => k h3), if_pos hz]
  exact ⟨e, if_neg (by rw [e]; decide)⟩
theorem kZ {xs ys : List Bs} {l : List TRC} (h : cm xs ys = 0) (h2 : ¬ 10000 < l.length) (hq : ∀ q, q < l.length → co xs.length ys.length (l.getD q aQ) = 0) (hz : ¬ 1048576 < (fU xs ys l).length) : dZ xs ys l = 0 ∧ kU xs ys l = fU xs ys l :=
  ShOK.e ⟨h, by omega, hq, by omega⟩
/-plain-/
theorem dI {t : Ty} {e : AC} : VLE (.tup [.one .nils, .one e]) (.tup [.one (.list t []), .one e]) := aT ⟨aZ (aE rfl), fun _ _ _ _ _ h => h, trivial⟩
end Go.AV
namespace Go.Proofs.YtfakhaagbimljaaDoor
open Go Go.AV
open Nat renaming reduceEqDiff → J, reduceAdd → D, reduceLeDiff → M, reduceLT → U, reduceMul → O, reduceSub → S
open List renaming set_cons_zero → bC, set_cons_succ → bD, getD_cons_zero → c9, length_append → aj, map_cons → aP, cons_append → b0, map_nil → bb, length_cons → ad, nil_append → aY, take_succ_cons → am, length_nil → aq, length_map → bJ, length_replicate → bo, take_length → az, mem_cons_self → aO, mem_cons_of_mem → aM
open Int renaming toNat_natCast → af
theorem zT : type_of% (And.intro Tryd.el22 (And.intro Tryd.el27 (And.intro Tryd.el43 (And.intro Tryd.el76 (And.intro Tryd.st24 (And.intro Tryd.st47 (And.intro Tryd.st60 (And.intro Tryd.st78 (And.intro Tryd.td1 (And.intro Tryd.td103 (And.intro Tryd.td104 (And.intro Tryd.td122 (And.intro Tryd.td126 (And.intro Tryd.td2 (And.intro Tryd.td21 (And.intro Tryd.td22 (And.intro Tryd.td24 (And.intro Tryd.td27 (And.intro Tryd.td28 (And.intro Tryd.td3 (And.intro Tryd.td4 (And.intro Tryd.td43 (And.intro Tryd.td47 (And.intro Tryd.td5 (And.intro Tryd.td60 (And.intro Tryd.td75 (And.intro Tryd.td76 (And.intro Tryd.td78 (And.intro Tryd.td9 Tryd.td99))))))))))))))))))))))))))))) :=
  And.intro Tryd.el22 (And.intro Tryd.el27 (And.intro Tryd.el43 (And.intro Tryd.el76 (And.intro Tryd.st24 (And.intro Tryd.st47 (And.intro Tryd.st60 (And.intro Tryd.st78 (And.intro Tryd.td1 (And.intro Tryd.td103 (And.intro Tryd.td104 (And.intro Tryd.td122 (And.intro Tryd.td126 (And.intro Tryd.td2 (And.intro Tryd.td21 (And.intro Tryd.td22 (And.intro Tryd.td24 (And.intro Tryd.td27 (And.intro Tryd.td28 (And.intro Tryd.td3 (And.intro Tryd.td4 (And.intro Tryd.td43 (And.intro Tryd.td47 (And.intro Tryd.td5 (And.intro Tryd.td60 (And.intro Tryd.td75 (And.intro Tryd.td76 (And.intro Tryd.td78 (And.intro Tryd.td9 Tryd.td99))))))))))))))))))))))))))))
/- MaxLen's cell holds some number; lg6Th -/
def MXL (o : Obj) : Prop := ∃ (m : Int) (t : TypeId) (z : Nat × Nat), o = .cells #[.int .i64 m] t z
open Go.Shelf in
def Tryd.lays144_ren : Go.Shelf.Ren := ⟨fun | 144 => 28 | 143 => 50 | 219 => 68 | 217 => 82 | 225 => 83 | 224 => 84 | 267 => 85 | 266 => 98 | 314 => 99 | n => n, fun | 9 => 9 | 4 => 4 | 3 => 3 | 5 => 5 | 46 => 122 | 146 => 132 | 51 => 131 | n => n, fun | 1 => 0 | n => n⟩
theorem Tryd.lays144 : Go.Proofs.Lays.n144 Tryd.prog Tryd.lays144_ren := {
  mixed := by kernel_rfl,
  f143 := Tryd.func50.trans (congrArg some (by kernel_rfl)),
  f144 := Tryd.func28.trans (congrArg some (by kernel_rfl)),
  f217 := Tryd.func82.trans (congrArg some (by kernel_rfl)),
  f219 := Tryd.func68.trans (congrArg some (by kernel_rfl)),
  f224 := Tryd.func84.trans (congrArg some (by kernel_rfl)),
  f225 := Tryd.func83.trans (congrArg some (by kernel_rfl)),
  f266 := Tryd.func98.trans (congrArg some (by kernel_rfl)),
  f267 := Tryd.func85.trans (congrArg some (by kernel_rfl)),
  f314 := Tryd.func99.trans (congrArg some (by kernel_rfl)),
  t3 := Tryd.underlying3,
  a3 := Tryd.isAgg3,
  z3 := Tryd.sizeOf3,
  v3 := Tryd.zeroValue3,
  t4 := Tryd.underlying4,
  a4 := Tryd.isAgg4,
  z4 := Tryd.sizeOf4,
  v4 := Tryd.zeroValue4,
  t5 := Tryd.underlying5,
  a5 := Tryd.isAgg5,
  z5 := Tryd.sizeOf5,
  v5 := Tryd.zeroValue5,
  t9 := Tryd.underlying9,
  a9 := Tryd.isAgg9,
  z9 := Tryd.sizeOf9,
  v9 := Tryd.zeroValue9,
  t46 := Tryd.underlying122,
  a46 := Tryd.isAgg122,
  z46 := Tryd.sizeOf122,
  v46 := Tryd.zeroValue122,
  t51 := Tryd.underlying131,
  a51 := Tryd.isAgg131,
  z51 := Tryd.sizeOf131,
  v51 := Tryd.zeroValue131,
  t146 := Tryd.underlying132,
  a146 := Tryd.isAgg132,
  z146 := Tryd.sizeOf132,
  v146 := Tryd.zeroValue132,
  g1 := by kernel_rfl }
theorem oc {o : Obj} (hm : MXL o) (s : Bs) (hs : s.length ≤ 1000000000) : cF Tryd.prog [.fact 0 o] 28 [.one (.str s), .one (.str [32, 32])] { av := .one (.bool (Lib.contains s [32, 32])), fp := [0] } := by
  refine ⟨⟨Tryd.f28, Tryd.func28, by kernel_rfl, by kernel_rfl⟩, fun C L σ w vs hP hi ha hfp hlen => ?_⟩
  match vs, ha with
  | [v1, v2], ⟨h1, h2, _⟩ =>
  have e1 : v1 = .string ⟨s.toArray⟩ := h1.2
  have e2 : v2 = .string ⟨([32, 32] : Bs).toArray⟩ := h2.2
  subst e1
  subst e2
  obtain ⟨m, t, z, hx⟩ := hm
  have hL : L[0]? = some (.fact 0 o) := hfp 0 (List.mem_singleton.2 rfl)
  have hob := (hi.ob 0 _ hL).1
  have hc : w.cell? ⟨0, 0, none⟩ = some (.int .i64 m) := by
    rw [hx] at hob
    simp [World.cell?, hob]
  refine Calls.mono (Any.strings_Contains Tryd.lays144 ⟨s.toArray⟩ ⟨([32, 32] : Bs).toArray⟩ m w (by show s.toArray.size < _; simp; omega) hc) fun e w' hh => ?_
  obtain ⟨e3, e4⟩ := hh
  subst e4
  exact ⟨_, e3, eE hi (Nat.le_refl _) rfl rfl rfl (fun _ _ => rfl) fun _ _ => ⟨rfl, rfl⟩⟩
theorem lC (xs : List Bs) : aV Tryd.prog 8 [.agg [.list .str xs]] (.one (.bool (grB xs))) := by
 refine aw Tryd.func8 rfl (by kernel_rfl) (Nat.le_of_ble_eq_true rfl) rfl fun C hP hN hB => ?_
 replace hN : C.N = 26 := hN
 simp only [aH, D]
 refine V fun _ k1 => ?_
 refine a9 hP hN rfl ?_
 iterate 2 (refine Z rfl fun _ k0 => ?_; simp only [zO, zT, acs, reduceCtorEq, J, D, M, U, O, S]; (repeat refine an ?_); (try refine .inl ?_); apply k0; clear k0; simp only [zP, D])
 refine aa ?_
 apply k1; clear k1; refine kp [0, 1, 2] ?_
 refine V fun _ k2 => ?_
 refine V fun _ k3 => ?_
 refine a9 hP hN rfl ?_
 (refine Z rfl fun _ k0 => ?_; simp only [zO, zT, acs, reduceCtorEq, J, D, M, U, O, S]; (repeat refine an ?_); (try refine .inl ?_); apply k0; clear k0; simp only [zP, D])
 refine aa ?_
 apply k3; clear k3; refine kp [0, 1, 2, 3] ?_
 refine au ?_
 refine aU (fun n4 s4 => ∃ (k : Nat), (k ≤ xs.length) ∧ (∀ q, q < k → (xs.getD q []).length ≤ 100) ∧ (k ≤ 71) ∧ n4 = xs.length - k ∧ s4 = { env := [(1, .one (.ptr 0 0 0 0)), (2, .one (.bool false)), (3, .one (.int .i64 (k : Int)))], L := [.vars 24 [.list .str xs]] }) ?_ ?_
 ·exact ⟨_, _, ak [1, 2, 3], 0, Nat.zero_le _, fun q hq => by omega, by omega, rfl, rfl⟩
 rintro n4 s4 ⟨k, hk, hq, hk7, rfl, rfl⟩
 refine V fun _ k5 => ?_
 refine V fun _ k6 => ?_
 refine a9 hP hN rfl ?_
 iterate 6 (refine Z rfl fun _ k0 => ?_; simp only [zO, zT, acs, reduceCtorEq, J, D, M, U, O, S]; (repeat refine an ?_); (try refine .inl ?_); apply k0; clear k0; simp only [zP, D])
 refine' aB (want := true) 2 rfl (m := 9) (by simp only [zP, J, D]; exact rfl) (by kernel_rfl) rfl rfl rfl rfl rfl (fun hg7 => ?a7) ?b7 ?c7
 case a7 =>
  have hq7 := hg7; (try simp only [zB, reduceCtorEq] at hg7); simp only [zE]
  iterate 2 (refine aL rfl fun _ k0 => ?_; simp only [zO, zT, acs, reduceCtorEq, J, D, M, U, O, S]; (repeat refine an ?_); (try refine .inl ?_); apply k0; clear k0; simp only [zP, D])
  (refine Z rfl fun _ k0 => ?_; simp only [zO, zT, acs, reduceCtorEq, J, D, M, U, O, S]; (repeat refine an ?_); (try refine .inl ?_); apply k0; clear k0; simp only [zP, D])
  refine aa ?_
  refine ⟨by simp only [zP, J, D]; exact rfl, rfl, ?_, rfl⟩; (repeat refine aA rfl ?_); exact aN (by exact rfl) hq7
 case b7 => exact bc
 simp only [aK, aF]
 refine aa ?_
 apply k6; clear k6; refine kp [1, 2, 3, 12] ?_
 refine cd (fun hc8 => ?_) (fun hc8 => ?_)
 ·(try simp only [zB, reduceCtorEq] at hc8)
  refine ag ?_
  apply k5; clear k5; refine kp [1, 2, 3, 12] ?_
  refine V fun _ k9 => ?_
  refine au ?_
  refine V fun _ k10 => ?_
  refine a9 hP hN rfl ?_
  iterate 7 (refine Z rfl fun _ k0 => ?_; simp only [zO, zT, acs, reduceCtorEq, J, D, M, U, O, S]; (repeat refine an ?_); (try refine .inl ?_); apply k0; clear k0; simp only [zP, D])
  refine aa ?_
  apply k10; clear k10; refine kp [1, 2, 3, 12, 21] ?_
  refine cd (fun hc11 => ?_) (fun hc11 => ?_)
  ·(try simp only [zB, reduceCtorEq] at hc11)
   refine V fun _ k12 => ?_
   refine a9 hP hN rfl ?_
   (refine Z rfl fun _ k0 => ?_; simp only [zO, zT, acs, reduceCtorEq, J, D, M, U, O, S]; (repeat refine an ?_); (try refine .inl ?_); apply k0; clear k0; simp only [zP, D])
   refine aa ?_
   apply k12; clear k12; refine kp [1, 2, 3, 12, 21] ?_
   refine ah ?_
   refine ⟨nr, _, rfl, ?_⟩; simp only [zF, zP, J, D]
   refine VLE.of_eq ?_
   refine congrArg (fun b => AV.one (AC.bool b)) ?_
   symm
   first
   | exact ur (k := k) (by omega) (by omega) (by omega)
   | exact ut (k := k) (by omega) hq
  (try simp only [zB, reduceCtorEq] at hc11)
  refine ag ?_
  apply k9; clear k9; refine kp [1, 2, 3, 12, 21] ?_
  refine a9 hP hN rfl ?_
  iterate 3 (refine Z rfl fun _ k0 => ?_; simp only [zO, zT, acs, reduceCtorEq, J, D, M, U, O, S]; (repeat refine an ?_); (try refine .inl ?_); apply k0; clear k0; simp only [zP, D])
  refine aa ?_
  refine ⟨_, _, ?_, ak [1, 2, 3], k + 1, by omega, fun q hq2 => ?_, by omega, rfl, rfl⟩
  · omega
  · by_cases e : q = k
    · rw [e]; omega
    · exact hq q (by omega)
 (try simp only [zB, reduceCtorEq] at hc8)
 refine aR ?_
 apply k2; clear k2; refine kp [1, 2, 3, 12] ?_
 refine V fun _ k13 => ?_
 refine a9 hP hN rfl ?_
 iterate 5 (refine Z rfl fun _ k0 => ?_; simp only [zO, zT, acs, reduceCtorEq, J, D, M, U, O, S]; (repeat refine an ?_); (try refine .inl ?_); apply k0; clear k0; simp only [zP, D])
 refine aa ?_
 apply k13; clear k13; refine kp [1, 2, 3, 12] ?_
 refine ah ?_
 refine ⟨nr, _, rfl, ?_⟩; simp only [zF, zP, J, D]
 refine VLE.of_eq ?_
 refine congrArg (fun b => AV.one (AC.bool b)) ?_
 symm
 first
 | exact ur (k := k) (by omega) (by omega) (by omega)
 | exact ut (k := k) (by omega) hq
theorem uA (a b : List Int) : aV Tryd.prog 39 [.one (.list (.int .i64) a), .one (.list (.int .i64) b)] (.one (.int .i64 (cmn a b : Int))) := by
 refine aw Tryd.func39 rfl (by kernel_rfl) (Nat.le_of_ble_eq_true rfl) rfl fun C hP hN hB => ?_
 replace hN : C.N = 30 := hN
 simp only [aH, D]
 refine cQ 0 rfl fun hf0 => ?_; simp only [lkp, if_true, if_false, reduceCtorEq, J, eq_self, Nat.one_ne_zero, Nat.zero_ne_one, eP, eN, eB, Fit, and_true, implies_true, true_and] at hf0
 refine V fun _ k1 => ?_
 refine a9 hP hN rfl ?_
 (refine Z rfl fun _ k0 => ?_; simp only [zO, zT, acs, reduceCtorEq, J, D, M, U, O, S]; (repeat refine an ?_); (try refine .inl ?_); apply k0; clear k0; simp only [zP, D])
 refine aa ?_
 apply k1; clear k1; refine kp [0, 1, 4] ?_
 refine V fun _ k2 => ?_
 refine a9 hP hN rfl ?_
 (refine Z rfl fun _ k0 => ?_; simp only [zO, zT, acs, reduceCtorEq, J, D, M, U, O, S]; (repeat refine an ?_); (try refine .inl ?_); apply k0; clear k0; simp only [zP, D])
 refine aa ?_
 apply k2; clear k2; refine kp [0, 1, 4, 5] ?_
 refine V fun _ k3 => ?_
 refine au ?_
 refine aU (fun n4 s4 => ∃ (k : Nat), (k ≤ a.length) ∧ (k ≤ b.length) ∧ (∀ q, q < k → a.getD q 0 = b.getD q 0) ∧ n4 = a.length - k ∧ s4 = { env := [(0, .one (.list (.int .i64) a)), (1, .one (.list (.int .i64) b)), (4, .one (.int .i64 0)), (5, .one (.int .i64 (k : Int)))], L := [] }) ?_ ?_
 ·exact ⟨_, _, ak [0, 1, 4, 5], 0, Nat.zero_le _, Nat.zero_le _, fun q hq => by omega, rfl, rfl⟩
 rintro n4 s4 ⟨k, hk, hkb, hq, rfl, rfl⟩
 refine V fun _ k5 => ?_
 refine V fun _ k6 => ?_
 refine bS hP hN Tryd.mixed rfl ?_
 iterate 5 (refine Z rfl fun _ k0 => ?_; simp only [zO, zT, acs, reduceCtorEq, J, D, M, U, O, S]; (repeat refine an ?_); (try refine .inl ?_); apply k0; clear k0; simp only [zP, D])
 refine' aB (want := true) 4 rfl (m := 10) (by simp only [zP, J, D]; exact rfl) (by kernel_rfl) rfl rfl rfl rfl rfl (fun hg7 => ?a7) ?b7 ?c7
 case a7 =>
  have hq7 := hg7; (try simp only [zB, reduceCtorEq] at hg7); simp only [zE]
  iterate 4 (refine aL rfl fun _ k0 => ?_; simp only [zO, zT, acs, reduceCtorEq, J, D, M, U, O, S]; (repeat refine an ?_); (try refine .inl ?_); apply k0; clear k0; simp only [zP, D])
  (refine Z rfl fun _ k0 => ?_; simp only [zO, zT, acs, reduceCtorEq, J, D, M, U, O, S]; (repeat refine an ?_); (try refine .inl ?_); apply k0; clear k0; simp only [zP, D])
  refine aa ?_
  refine ⟨by simp only [zP, J, D]; exact rfl, rfl, ?_, rfl⟩; (repeat refine aA rfl ?_); exact aN (by exact rfl) hq7
 case b7 => exact bc
 simp only [aK, aF]
 (refine Z rfl fun _ k0 => ?_; simp only [zO, zT, acs, reduceCtorEq, J, D, M, U, O, S]; (repeat refine an ?_); (try refine .inl ?_); apply k0; clear k0; simp only [zP, D])
 refine' aB (want := true) 9 rfl (m := 16) (by simp only [zP, J, D]; exact rfl) (by kernel_rfl) rfl rfl rfl rfl rfl (fun hg8 => ?a8) ?b8 ?c8
 case a8 =>
  have hq8 := hg8; (try simp only [zB, reduceCtorEq] at hg8); simp only [zE]
  iterate 9 (refine aL rfl fun _ k0 => ?_; simp only [zO, zT, acs, reduceCtorEq, J, D, M, U, O, S]; (repeat refine an ?_); (try refine .inl ?_); apply k0; clear k0; simp only [zP, D])
  (refine Z rfl fun _ k0 => ?_; simp only [zO, zT, acs, reduceCtorEq, J, D, M, U, O, S]; (repeat refine an ?_); (try refine .inl ?_); apply k0; clear k0; simp only [zP, D])
  refine aa ?_
  refine ⟨by simp only [zP, J, D]; exact rfl, rfl, ?_, rfl⟩; (repeat refine aA rfl ?_); exact aN (by exact rfl) hq8
 case b8 => exact bc
 simp only [aK, aF]
 refine aa ?_
 refine ⟨by kernel_rfl, ?_⟩
 apply k6; clear k6; refine kp [0, 1, 4, 5, 26] ?_
 refine cd (fun hc9 => ?_) (fun hc9 => ?_)
 ·(try simp only [zB, reduceCtorEq] at hc9)
  have h3 : k < a.length ∧ k < b.length ∧ a.getD k 0 = b.getD k 0 := by have h9 := hc9; omega
  refine ag ?_
  apply k5; clear k5; refine kp [0, 1, 4, 5, 26] ?_
  refine au ?_
  refine a9 hP hN rfl ?_
  iterate 3 (refine Z rfl fun _ k0 => ?_; simp only [zO, zT, acs, reduceCtorEq, J, D, M, U, O, S]; (repeat refine an ?_); (try refine .inl ?_); apply k0; clear k0; simp only [zP, D])
  refine aa ?_
  refine ⟨_, _, ?_, ak [0, 1, 4, 5], k + 1, by omega, by omega, fun q hq2 => ?_, rfl, rfl⟩
  · omega
  · by_cases e : q = k
    · rw [e]; exact h3.2.2
    · exact hq q (by omega)
 (try simp only [zB, reduceCtorEq] at hc9)
 have hs : ¬ (k < a.length ∧ k < b.length ∧ a.getD k 0 = b.getD k 0) := by have h9 := hc9; omega
 refine aR ?_
 apply k3; clear k3; refine kp [0, 1, 4, 5, 26] ?_
 refine V fun _ k10 => ?_
 refine a9 hP hN rfl ?_
 iterate 2 (refine Z rfl fun _ k0 => ?_; simp only [zO, zT, acs, reduceCtorEq, J, D, M, U, O, S]; (repeat refine an ?_); (try refine .inl ?_); apply k0; clear k0; simp only [zP, D])
 refine aa ?_
 apply k10; clear k10; refine kp [0, 1, 4, 5, 26] ?_
 refine ah ?_
 refine ⟨nr, _, rfl, ?_⟩; simp only [zF, zP, J, D]
 refine VLE.of_eq ?_
 refine congrArg (fun n => AV.one (AC.int IntKind.i64 n)) ?_
 rw [eo hq hk hkb hs]
theorem nq (a b : List Int) : aV Tryd.prog 16 [.one (.list (.int .i64) a), .one (.list (.int .i64) b)] (.one (.bool (decide (a = b)))) := by
 refine aw Tryd.func16 rfl (by kernel_rfl) (Nat.le_of_ble_eq_true rfl) rfl fun C hP hN hB => ?_
 replace hN : C.N = 18 := hN
 simp only [aH, D]
 refine V fun _ k1 => ?_
 refine a9 hP hN rfl ?_
 (refine Z rfl fun _ k0 => ?_; simp only [zO, zT, acs, reduceCtorEq, J, D, M, U, O, S]; (repeat refine an ?_); (try refine .inl ?_); apply k0; clear k0; simp only [zP, D])
 refine aa ?_
 apply k1; clear k1; refine kp [0, 1, 4] ?_
 refine V fun _ k2 => ?_
 refine a9 hP hN rfl ?_
 iterate 6 (refine Z rfl fun _ k0 => ?_; simp only [zO, zT, acs, reduceCtorEq, J, D, M, U, O, S]; (repeat refine an ?_); (try refine .inl ?_); apply k0; clear k0; simp only [zP, D])
 refine' aB (want := true) 6 rfl (m := 10) (by simp only [zP, J, D]; exact rfl) (by kernel_rfl) rfl rfl rfl rfl rfl (fun hg3 => ?a3) ?b3 ?c3
 case a3 =>
  have hq3 := hg3; (try simp only [zB, reduceCtorEq] at hg3); simp only [zE]
  iterate 2 (refine aL rfl fun _ k0 => ?_; simp only [zO, zT, acs, reduceCtorEq, J, D, M, U, O, S]; (repeat refine an ?_); (try refine .inl ?_); apply k0; clear k0; simp only [zP, D])
  refine aL rfl fun _ k0 => ?_
  refine ar (h := ae (uA a b)) rfl rfl (by first | exact rfl | (simp only [ev, zP, J, D]; exact rfl)) (by simp only [zV, acs, reduceCtorEq, J, D, M, U, O, S]) ?_
  apply k0; clear k0; simp only [zP, D]
  iterate 3 (refine aL rfl fun _ k0 => ?_; simp only [zO, zT, acs, reduceCtorEq, J, D, M, U, O, S]; (repeat refine an ?_); (try refine .inl ?_); apply k0; clear k0; simp only [zP, D])
  (refine Z rfl fun _ k0 => ?_; simp only [zO, zT, acs, reduceCtorEq, J, D, M, U, O, S]; (repeat refine an ?_); (try refine .inl ?_); apply k0; clear k0; simp only [zP, D])
  refine aa ?_
  refine ⟨by simp only [zP, J, D]; exact rfl, rfl, ?_, rfl⟩; (repeat refine aA rfl ?_); exact aN (by exact rfl) hq3
 case b3 => exact bc
 simp only [aK, aF]
 (refine Z rfl fun _ k0 => ?_; simp only [zO, zT, acs, reduceCtorEq, J, D, M, U, O, S]; (repeat refine an ?_); (try refine .inl ?_); apply k0; clear k0; simp only [zP, D])
 refine aa ?_
 apply k2; clear k2; refine kp [0, 1, 4] ?_
 refine ah ?_
 refine ⟨nr, _, rfl, ?_⟩; simp only [zF, zP, J, D]
 refine VLE.of_eq ?_
 refine congrArg (fun b => AV.one (AC.bool b)) ?_
 exact rh a b
theorem sj (x y : Int) : aV Tryd.prog 108 [.one (.list (.int .i64) [x, y])] (.one (.int .i64 (orI x y))) := by
 refine aw Tryd.func108 rfl (by kernel_rfl) (Nat.le_of_ble_eq_true rfl) rfl fun C hP hN hB => ?_
 replace hN : C.N = 18 := hN
 simp only [aH, D]
 refine V fun _ k1 => ?_
 refine a9 hP hN rfl ?_
 (refine Z rfl fun _ k0 => ?_; simp only [zO, zT, acs, reduceCtorEq, J, D, M, U, O, S, ad, aq]; (repeat refine an ?_); (try refine .inl ?_); apply k0; clear k0; simp only [zP, D])
 refine aa ?_
 apply k1; clear k1; refine kp [0, 2] ?_
 refine V fun _ k2 => ?_
 refine a9 hP hN rfl ?_
 (refine Z rfl fun _ k0 => ?_; simp only [zO, zT, acs, reduceCtorEq, J, D, M, U, O, S, ad, aq]; (repeat refine an ?_); (try refine .inl ?_); apply k0; clear k0; simp only [zP, D])
 refine aa ?_
 apply k2; clear k2; refine kp [0, 2, 3] ?_
 refine V fun _ k3 => ?_
 refine V fun _ k4 => ?_
 refine a9 hP hN rfl ?_
 iterate 3 (refine Z rfl fun _ k0 => ?_; simp only [zO, zT, acs, reduceCtorEq, J, D, M, U, O, S, ad, aq]; (repeat refine an ?_); (try refine .inl ?_); apply k0; clear k0; simp only [zP, D])
 refine aa ?_
 apply k4; clear k4; refine kp [0, 2, 3, 6, 7, 8] ?_
 refine au ?_
 refine aU (fun n5 s5 => ∃ (k : Nat), (k ≤ 2) ∧ (∀ q, q < k → [x, y].getD q 0 = 0) ∧ n5 = 2 - k ∧ s5 = { env := [(2, .one (.int .i64 0)), (3, .one (.int .i64 0)), (6, .one (.list (.int .i64) [x, y])), (7, .one (.int .i64 2)), (8, .one (.int .i64 (k : Int)))], L := [] }) ?_ ?_
 ·exact ⟨_, _, ak [2, 3, 6, 7, 8], 0, by omega, fun q hq => by omega, rfl, rfl⟩
 rintro n5 s5 ⟨k, hk, hq, rfl, rfl⟩
 refine V fun _ k6 => ?_
 refine a9 hP hN rfl ?_
 (refine Z rfl fun _ k0 => ?_; simp only [zO, zT, acs, reduceCtorEq, J, D, M, U, O, S, ad, aq]; (repeat refine an ?_); (try refine .inl ?_); apply k0; clear k0; simp only [zP, D])
 refine aa ?_
 apply k6; clear k6; refine kp [2, 3, 6, 7, 8, 9] ?_
 refine V fun _ k7 => ?_
 refine cd (fun hc8 => ?_) (fun hc8 => ?_)
 ·(try simp only [zB, reduceCtorEq] at hc8)
  refine ag ?_
  apply k7; clear k7; refine kp [2, 3, 6, 7, 8, 9] ?_
  refine V fun _ k9 => ?_
  refine au ?_
  refine V fun _ k10 => ?_
  refine a9 hP hN rfl ?_
  iterate 3 (refine Z rfl fun _ k0 => ?_; simp only [zO, zT, acs, reduceCtorEq, J, D, M, U, O, S, ad, aq]; (repeat refine an ?_); (try refine .inl ?_); apply k0; clear k0; simp only [zP, D])
  refine aa ?_
  apply k10; clear k10; refine kp [2, 3, 5, 6, 7, 8, 9] ?_
  refine V fun _ k11 => ?_
  refine a9 hP hN rfl ?_
  iterate 3 (refine Z rfl fun _ k0 => ?_; simp only [zO, zT, acs, reduceCtorEq, J, D, M, U, O, S, ad, aq]; (repeat refine an ?_); (try refine .inl ?_); apply k0; clear k0; simp only [zP, D])
  refine aa ?_
  apply k11; clear k11; refine kp [2, 3, 5, 6, 7, 8, 9, 14] ?_
  refine cd (fun hc12 => ?_) (fun hc12 => ?_)
  ·(try simp only [zB, reduceCtorEq] at hc12)
   have h1 := hc12
   refine V fun _ k13 => ?_
   refine a9 hP hN rfl ?_
   iterate 2 (refine Z rfl fun _ k0 => ?_; simp only [zO, zT, acs, reduceCtorEq, J, D, M, U, O, S, ad, aq]; (repeat refine an ?_); (try refine .inl ?_); apply k0; clear k0; simp only [zP, D])
   refine aa ?_
   apply k13; clear k13; refine kp [2, 3, 5, 6, 7, 8, 9, 14] ?_
   refine ah ?_
   refine ⟨nr, _, rfl, ?_⟩; simp only [zF, zP, J, D, ad, aq]
   refine VLE.of_eq ?_
   refine congrArg (fun n => AV.one (AC.int IntKind.i64 n)) ?_
   unfold orI
   first
   | (have hk3 : k = 0 ∨ k = 1 := by omega
      rcases hk3 with rfl | rfl
      · have h9 : ¬ x = 0 := by simpa using h1
        rw [if_pos h9]; rfl
      · have h8 : x = 0 := by simpa using hq 0 (by omega)
        rw [if_neg (fun k => k h8)]; rfl)
   | (subst hk2
      have h8 : x = 0 := by simpa using hq 0 (by omega)
      have h9 : y = 0 := by simpa using hq 1 (by omega)
      rw [if_neg (fun k => k h8), h9])
  (try simp only [zB, reduceCtorEq] at hc12)
  have h1 := hc12
  refine ag ?_
  apply k9; clear k9; refine kp [2, 3, 5, 6, 7, 8, 9, 14] ?_
  refine a9 hP hN rfl ?_
  iterate 2 (refine Z rfl fun _ k0 => ?_; simp only [zO, zT, acs, reduceCtorEq, J, D, M, U, O, S, ad, aq]; (repeat refine an ?_); (try refine .inl ?_); apply k0; clear k0; simp only [zP, D])
  refine aa ?_
  refine ⟨_, _, ?_, ak [2, 3, 6, 7, 8], k + 1, by omega, fun q hq2 => ?_, rfl, rfl⟩
  · omega
  · by_cases e : q = k
    · rw [e]; omega
    · exact hq q (by omega)
 (try simp only [zB, reduceCtorEq] at hc8)
 refine aR ?_
 apply k3; clear k3; refine kp [2, 3, 6, 7, 8, 9] ?_
 refine V fun _ k14 => ?_
 have hk2 : k = 2 := by omega
 refine a9 hP hN rfl ?_
 iterate 2 (refine Z rfl fun _ k0 => ?_; simp only [zO, zT, acs, reduceCtorEq, J, D, M, U, O, S, ad, aq]; (repeat refine an ?_); (try refine .inl ?_); apply k0; clear k0; simp only [zP, D])
 refine aa ?_
 apply k14; clear k14; refine kp [2, 3, 6, 7, 8, 9] ?_
 refine ah ?_
 refine ⟨nr, _, rfl, ?_⟩; simp only [zF, zP, J, D, ad, aq]
 refine VLE.of_eq ?_
 refine congrArg (fun n => AV.one (AC.int IntKind.i64 n)) ?_
 unfold orI
 first
 | (have hk3 : k = 0 ∨ k = 1 := by omega
    rcases hk3 with rfl | rfl
    · have h9 : ¬ x = 0 := by simpa using h1
      rw [if_pos h9]; rfl
    · have h8 : x = 0 := by simpa using hq 0 (by omega)
      rw [if_neg (fun k => k h8)]; rfl)
 | (subst hk2
    have h8 : x = 0 := by simpa using hq 0 (by omega)
    have h9 : y = 0 := by simpa using hq 1 (by omega)
    rw [if_neg (fun k => k h8), h9])
theorem oB (x : Int) : aV Tryd.prog 112 [.one (.int .i64 x)] (.one (.bool false)) := by
 refine aw Tryd.func112 rfl (by kernel_rfl) (Nat.le_of_ble_eq_true rfl) rfl fun C hP hN hB => ?_
 replace hN : C.N = 6 := hN
 simp only [aH, D]
 refine V fun _ k1 => ?_
 refine a9 hP hN rfl ?_
 (refine Z rfl fun _ k0 => ?_; simp only [zO, zT, acs, reduceCtorEq, J, D, M, U, O, S]; (repeat refine an ?_); (try refine .inl ?_); apply k0; clear k0; simp only [zP, D])
 refine aa ?_
 apply k1; clear k1; refine kp [0, 2] ?_
 refine V fun _ k2 => ?_
 refine a9 hP hN rfl ?_
 iterate 4 (refine Z rfl fun _ k0 => ?_; simp only [zO, zT, acs, reduceCtorEq, J, D, M, U, O, S]; (repeat refine an ?_); (try refine .inl ?_); apply k0; clear k0; simp only [zP, D])
 refine aa ?_
 apply k2; clear k2; refine kp [0, 2] ?_
 refine ah ?_
 refine ⟨nr, _, rfl, ?_⟩; simp only [zF, zP, J, D]
 refine VLE.of_eq ?_
 simp
theorem qn (x y : Int) : aV Tryd.prog 109 [.one (.int .i64 x), .one (.int .i64 y)] (.one (.int .i64 (dR x y))) := by
 refine aw Tryd.func109 rfl (by kernel_rfl) (Nat.le_of_ble_eq_true rfl) rfl fun C hP hN hB => ?_
 replace hN : C.N = 20 := hN
 simp only [aH, D]
 refine V fun _ k1 => ?_
 refine a9 hP hN rfl ?_
 (refine Z rfl fun _ k0 => ?_; simp only [zO, zT, acs, reduceCtorEq, J, D, M, U, O, S]; (repeat refine an ?_); (try refine .inl ?_); apply k0; clear k0; simp only [zP, D])
 refine aa ?_
 apply k1; clear k1; refine kp [0, 1, 4] ?_
 refine V fun _ k2 => ?_
 refine a9 hP hN rfl ?_
 (refine Z rfl fun _ k0 => ?_; simp only [zO, zT, acs, reduceCtorEq, J, D, M, U, O, S]; (repeat refine an ?_); (try refine .inl ?_); apply k0; clear k0; simp only [zP, D])
 refine Z rfl fun _ k0 => ?_
 refine ar (h := ae (oB x)) rfl rfl (by first | exact rfl | (simp only [ev, zP, J, D]; exact rfl)) (by simp only [zV, acs, reduceCtorEq, J, D, M, U, O, S]) ?_
 apply k0; clear k0; simp only [zP, D]
 (refine Z rfl fun _ k0 => ?_; simp only [zO, zT, acs, reduceCtorEq, J, D, M, U, O, S]; (repeat refine an ?_); (try refine .inl ?_); apply k0; clear k0; simp only [zP, D])
 refine aa ?_
 apply k2; clear k2; refine kp [0, 1, 4, 5] ?_
 refine V fun _ k3 => ?_
 refine a9 hP hN rfl ?_
 (refine Z rfl fun _ k0 => ?_; simp only [zO, zT, acs, reduceCtorEq, J, D, M, U, O, S]; (repeat refine an ?_); (try refine .inl ?_); apply k0; clear k0; simp only [zP, D])
 refine Z rfl fun _ k0 => ?_
 refine ar (h := ae (oB y)) rfl rfl (by first | exact rfl | (simp only [ev, zP, J, D]; exact rfl)) (by simp only [zV, acs, reduceCtorEq, J, D, M, U, O, S]) ?_
 apply k0; clear k0; simp only [zP, D]
 (refine Z rfl fun _ k0 => ?_; simp only [zO, zT, acs, reduceCtorEq, J, D, M, U, O, S]; (repeat refine an ?_); (try refine .inl ?_); apply k0; clear k0; simp only [zP, D])
 refine aa ?_
 apply k3; clear k3; refine kp [0, 1, 4, 5, 6] ?_
 refine V fun _ k4 => ?_
 refine V fun _ k5 => ?_
 refine a9 hP hN rfl ?_
 (refine Z rfl fun _ k0 => ?_; simp only [zO, zT, acs, reduceCtorEq, J, D, M, U, O, S]; (repeat refine an ?_); (try refine .inl ?_); apply k0; clear k0; simp only [zP, D])
 refine aa ?_
 apply k5; clear k5; refine kp [0, 1, 4, 5, 6, 11] ?_
 refine cd (fun hc6 => ?_) (fun hc6 => ?_)
 · exfalso; (try simp only [zB, reduceCtorEq] at hc6); all_goals (first | (cases hc6; done) | omega | (simp at hc6; done) | (simp_all; done))
 (try simp only [zB, reduceCtorEq] at hc6)
 refine ag ?_
 apply k4; clear k4; refine kp [0, 1, 4, 5, 6, 11] ?_
 refine V fun _ k7 => ?_
 refine V fun _ k8 => ?_
 refine a9 hP hN rfl ?_
 (refine Z rfl fun _ k0 => ?_; simp only [zO, zT, acs, reduceCtorEq, J, D, M, U, O, S]; (repeat refine an ?_); (try refine .inl ?_); apply k0; clear k0; simp only [zP, D])
 refine aa ?_
 apply k8; clear k8; refine kp [0, 1, 4, 5, 6, 11, 13] ?_
 refine cd (fun hc9 => ?_) (fun hc9 => ?_)
 · exfalso; (try simp only [zB, reduceCtorEq] at hc9); all_goals (first | (cases hc9; done) | omega | (simp at hc9; done) | (simp_all; done))
 (try simp only [zB, reduceCtorEq] at hc9)
 refine ag ?_
 apply k7; clear k7; refine kp [0, 1, 4, 5, 6, 11, 13] ?_
 refine V fun _ k10 => ?_
 refine V fun _ k11 => ?_
 refine a9 hP hN rfl ?_
 iterate 3 (refine Z rfl fun _ k0 => ?_; simp only [zO, zT, acs, reduceCtorEq, J, D, M, U, O, S]; (repeat refine an ?_); (try refine .inl ?_); apply k0; clear k0; simp only [zP, D])
 refine aa ?_
 apply k11; clear k11; refine kp [0, 1, 4, 5, 6, 11, 13, 16] ?_
 refine cd (fun hc12 => ?_) (fun hc12 => ?_)
 ·(try simp only [zB, reduceCtorEq] at hc12)
  have h1 := hc12
  refine V fun _ k13 => ?_
  refine a9 hP hN rfl ?_
  (refine Z rfl fun _ k0 => ?_; simp only [zO, zT, acs, reduceCtorEq, J, D, M, U, O, S]; (repeat refine an ?_); (try refine .inl ?_); apply k0; clear k0; simp only [zP, D])
  refine aa ?_
  apply k13; clear k13; refine kp [0, 1, 4, 5, 6, 11, 13, 16] ?_
  refine ah ?_
  refine ⟨nr, _, rfl, ?_⟩; simp only [zF, zP, J, D]
  refine VLE.of_eq ?_
  refine congrArg (fun n => AV.one (AC.int IntKind.i64 n)) ?_
  unfold dR
  first
  | (rw [if_pos (by omega)]; done)
  | (rw [if_neg (by omega), if_pos (by omega)]; done)
  | (rw [if_neg (by omega), if_neg (by omega)]; done)
 (try simp only [zB, reduceCtorEq] at hc12)
 have h1 := hc12
 refine ag ?_
 apply k10; clear k10; refine kp [0, 1, 4, 5, 6, 11, 13, 16] ?_
 refine V fun _ k14 => ?_
 refine V fun _ k15 => ?_
 refine a9 hP hN rfl ?_
 iterate 3 (refine Z rfl fun _ k0 => ?_; simp only [zO, zT, acs, reduceCtorEq, J, D, M, U, O, S]; (repeat refine an ?_); (try refine .inl ?_); apply k0; clear k0; simp only [zP, D])
 refine aa ?_
 apply k15; clear k15; refine kp [0, 1, 4, 5, 6, 11, 13, 16, 19] ?_
 refine cd (fun hc16 => ?_) (fun hc16 => ?_)
 ·(try simp only [zB, reduceCtorEq] at hc16)
  have h2 := hc16
  refine V fun _ k17 => ?_
  refine a9 hP hN rfl ?_
  (refine Z rfl fun _ k0 => ?_; simp only [zO, zT, acs, reduceCtorEq, J, D, M, U, O, S]; (repeat refine an ?_); (try refine .inl ?_); apply k0; clear k0; simp only [zP, D])
  refine aa ?_
  apply k17; clear k17; refine kp [0, 1, 4, 5, 6, 11, 13, 16, 19] ?_
  refine ah ?_
  refine ⟨nr, _, rfl, ?_⟩; simp only [zF, zP, J, D]
  refine VLE.of_eq ?_
  refine congrArg (fun n => AV.one (AC.int IntKind.i64 n)) ?_
  unfold dR
  first
  | (rw [if_pos (by omega)]; done)
  | (rw [if_neg (by omega), if_pos (by omega)]; done)
  | (rw [if_neg (by omega), if_neg (by omega)]; done)
 (try simp only [zB, reduceCtorEq] at hc16)
 have h2 := hc16
 refine ag ?_
 apply k14; clear k14; refine kp [0, 1, 4, 5, 6, 11, 13, 16, 19] ?_
 refine V fun _ k18 => ?_
 refine a9 hP hN rfl ?_
 (refine Z rfl fun _ k0 => ?_; simp only [zO, zT, acs, reduceCtorEq, J, D, M, U, O, S]; (repeat refine an ?_); (try refine .inl ?_); apply k0; clear k0; simp only [zP, D])
 refine aa ?_
 apply k18; clear k18; refine kp [0, 1, 4, 5, 6, 11, 13, 16, 19] ?_
 refine ah ?_
 refine ⟨nr, _, rfl, ?_⟩; simp only [zF, zP, J, D]
 refine VLE.of_eq ?_
 refine congrArg (fun n => AV.one (AC.int IntKind.i64 n)) ?_
 unfold dR
 first
 | (rw [if_pos (by omega)]; done)
 | (rw [if_neg (by omega), if_pos (by omega)]; done)
 | (rw [if_neg (by omega), if_neg (by omega)]; done)
theorem oP (v w : List Int) : aV Tryd.prog 110 [.one (.list (.int .i64) v), .one (.list (.int .i64) w)] (.one (.int .i64 (dE v w))) := by
 refine aw Tryd.func110 rfl (by kernel_rfl) (Nat.le_of_ble_eq_true rfl) rfl fun C hP hN hB => ?_
 replace hN : C.N = 36 := hN
 simp only [aH, D]
 refine cQ 0 rfl fun hf0 => ?_; simp only [lkp, if_true, if_false, reduceCtorEq, J, eq_self, Nat.one_ne_zero, Nat.zero_ne_one, eP, eN, eB, Fit, and_true, implies_true, true_and] at hf0; refine cQ 1 rfl fun hf1 => ?_; simp only [lkp, if_true, if_false, reduceCtorEq, J, eq_self, Nat.one_ne_zero, Nat.zero_ne_one, eP, eN, eB, Fit, and_true, implies_true, true_and] at hf1
 refine V fun _ k1 => ?_
 refine a9 hP hN rfl ?_
 (refine Z rfl fun _ k0 => ?_; simp only [zO, zT, acs, reduceCtorEq, J, D, M, U, O, S]; (repeat refine an ?_); (try refine .inl ?_); apply k0; clear k0; simp only [zP, D])
 refine aa ?_
 apply k1; clear k1; refine kp [0, 1, 4] ?_
 refine V fun _ k2 => ?_
 refine V fun _ k3 => ?_
 refine a9 hP hN rfl ?_
 iterate 3 (refine Z rfl fun _ k0 => ?_; simp only [zO, zT, acs, reduceCtorEq, J, D, M, U, O, S]; (repeat refine an ?_); (try refine .inl ?_); apply k0; clear k0; simp only [zP, D])
 refine aa ?_
 apply k3; clear k3; refine kp [0, 1, 4, 9, 10, 11] ?_
 refine au ?_
 refine aU (fun n4 s4 => ∃ (k : Nat), (k ≤ v.length) ∧ (k ≤ w.length) ∧ (∀ q, q < k → v.getD q 0 = w.getD q 0) ∧ n4 = v.length - k ∧ s4 = { env := [(0, .one (.list (.int .i64) v)), (1, .one (.list (.int .i64) w)), (4, .one (.int .i64 0)), (9, .one (.list (.int .i64) v)), (10, .one (.int .i64 (v.length : Int))), (11, .one (.int .i64 (k : Int)))], L := [] }) ?_ ?_
 ·exact ⟨_, _, ak [0, 1, 4, 9, 10, 11], 0, Nat.zero_le _, Nat.zero_le _, fun q hq => by omega, rfl, rfl⟩
 rintro n4 s4 ⟨k, hk, hkw, hq, rfl, rfl⟩
 refine V fun _ k5 => ?_
 refine a9 hP hN rfl ?_
 (refine Z rfl fun _ k0 => ?_; simp only [zO, zT, acs, reduceCtorEq, J, D, M, U, O, S]; (repeat refine an ?_); (try refine .inl ?_); apply k0; clear k0; simp only [zP, D])
 refine aa ?_
 apply k5; clear k5; refine kp [0, 1, 4, 9, 10, 11, 12] ?_
 refine V fun _ k6 => ?_
 refine cd (fun hc7 => ?_) (fun hc7 => ?_)
 ·(try simp only [zB, reduceCtorEq] at hc7)
  refine ag ?_
  apply k6; clear k6; refine kp [0, 1, 4, 9, 10, 11, 12] ?_
  refine V fun _ k8 => ?_
  refine au ?_
  refine V fun _ k9 => ?_
  refine a9 hP hN rfl ?_
  iterate 5 (refine Z rfl fun _ k0 => ?_; simp only [zO, zT, acs, reduceCtorEq, J, D, M, U, O, S]; (repeat refine an ?_); (try refine .inl ?_); apply k0; clear k0; simp only [zP, D])
  refine aa ?_
  apply k9; clear k9; refine kp [0, 1, 4, 5, 6, 9, 10, 11, 12] ?_
  refine V fun _ k10 => ?_
  refine V fun _ k11 => ?_
  refine a9 hP hN rfl ?_
  iterate 4 (refine Z rfl fun _ k0 => ?_; simp only [zO, zT, acs, reduceCtorEq, J, D, M, U, O, S]; (repeat refine an ?_); (try refine .inl ?_); apply k0; clear k0; simp only [zP, D])
  refine aa ?_
  apply k11; clear k11; refine kp [0, 1, 4, 5, 6, 9, 10, 11, 12, 19] ?_
  refine cd (fun hc12 => ?_) (fun hc12 => ?_)
  ·(try simp only [zB, reduceCtorEq] at hc12)
   have h1 := hc12
   refine V fun _ k13 => ?_
   refine a9 hP hN rfl ?_
   (refine Z rfl fun _ k0 => ?_; simp only [zO, zT, acs, reduceCtorEq, J, D, M, U, O, S]; (repeat refine an ?_); (try refine .inl ?_); apply k0; clear k0; simp only [zP, D])
   refine aa ?_
   apply k13; clear k13; refine kp [0, 1, 4, 5, 6, 9, 10, 11, 12, 19] ?_
   refine ah ?_
   refine ⟨nr, _, rfl, ?_⟩; simp only [zF, zP, J, D]
   refine VLE.of_eq ?_
   refine congrArg (fun n => AV.one (AC.int IntKind.i64 n)) ?_
   symm
   first
   | exact iO hq (by omega) (by omega) (by omega)
   | exact fL (fun q hq2 => hq q (by omega)) (by omega)
   | (rw [dr (fun q hq2 => hq q (by omega)) (by omega), if_pos (by omega)]; done)
   | (rw [dr (fun q hq2 => hq q (by omega)) (by omega), if_neg (by omega)]; done)
  (try simp only [zB, reduceCtorEq] at hc12)
  have h1 := hc12
  refine ag ?_
  apply k10; clear k10; refine kp [0, 1, 4, 5, 6, 9, 10, 11, 12, 19] ?_
  refine V fun _ k14 => ?_
  refine a9 hP hN rfl ?_
  iterate 5 (refine Z rfl fun _ k0 => ?_; simp only [zO, zT, acs, reduceCtorEq, J, D, M, U, O, S]; (repeat refine an ?_); (try refine .inl ?_); apply k0; clear k0; simp only [zP, D])
  refine aa ?_
  apply k14; clear k14; refine kp [0, 1, 4, 5, 6, 7, 9, 10, 11, 12, 19] ?_
  refine V fun _ k15 => ?_
  refine a9 hP hN rfl ?_
  iterate 2 (refine Z rfl fun _ k0 => ?_; simp only [zO, zT, acs, reduceCtorEq, J, D, M, U, O, S]; (repeat refine an ?_); (try refine .inl ?_); apply k0; clear k0; simp only [zP, D])
  refine Z rfl fun _ k0 => ?_
  refine ar (h := ae (qn (v.getD k 0) (w.getD k 0))) rfl rfl (by first | exact rfl | (simp only [ev, zP, J, D]; exact rfl)) (by simp only [zV, acs, reduceCtorEq, J, D, M, U, O, S]) ?_
  apply k0; clear k0; simp only [zP, D]
  (refine Z rfl fun _ k0 => ?_; simp only [zO, zT, acs, reduceCtorEq, J, D, M, U, O, S]; (repeat refine an ?_); (try refine .inl ?_); apply k0; clear k0; simp only [zP, D])
  refine aa ?_
  apply k15; clear k15; refine kp [0, 1, 4, 5, 6, 7, 8, 9, 10, 11, 12, 19] ?_
  refine V fun _ k16 => ?_
  refine a9 hP hN rfl ?_
  iterate 2 (refine Z rfl fun _ k0 => ?_; simp only [zO, zT, acs, reduceCtorEq, J, D, M, U, O, S]; (repeat refine an ?_); (try refine .inl ?_); apply k0; clear k0; simp only [zP, D])
  refine aa ?_
  apply k16; clear k16; refine kp [0, 1, 4, 5, 6, 7, 8, 9, 10, 11, 12, 19, 28] ?_
  refine cd (fun hc17 => ?_) (fun hc17 => ?_)
  ·(try simp only [zB, reduceCtorEq] at hc17)
   have h2 := hc17
   refine V fun _ k18 => ?_
   refine a9 hP hN rfl ?_
   iterate 2 (refine Z rfl fun _ k0 => ?_; simp only [zO, zT, acs, reduceCtorEq, J, D, M, U, O, S]; (repeat refine an ?_); (try refine .inl ?_); apply k0; clear k0; simp only [zP, D])
   refine aa ?_
   apply k18; clear k18; refine kp [0, 1, 4, 5, 6, 7, 8, 9, 10, 11, 12, 19, 28] ?_
   refine ah ?_
   refine ⟨nr, _, rfl, ?_⟩; simp only [zF, zP, J, D]
   refine VLE.of_eq ?_
   refine congrArg (fun n => AV.one (AC.int IntKind.i64 n)) ?_
   symm
   first
   | exact iO hq (by omega) (by omega) (by omega)
   | exact fL (fun q hq2 => hq q (by omega)) (by omega)
   | (rw [dr (fun q hq2 => hq q (by omega)) (by omega), if_pos (by omega)]; done)
   | (rw [dr (fun q hq2 => hq q (by omega)) (by omega), if_neg (by omega)]; done)
  (try simp only [zB, reduceCtorEq] at hc17)
  have h2 := hc17
  have heq := rL (x := v.getD k 0) (y := w.getD k 0) (by omega)
  refine ag ?_
  apply k8; clear k8; refine kp [0, 1, 4, 5, 6, 7, 8, 9, 10, 11, 12, 19, 28] ?_
  refine a9 hP hN rfl ?_
  iterate 2 (refine Z rfl fun _ k0 => ?_; simp only [zO, zT, acs, reduceCtorEq, J, D, M, U, O, S]; (repeat refine an ?_); (try refine .inl ?_); apply k0; clear k0; simp only [zP, D])
  refine aa ?_
  refine ⟨_, _, ?_, ak [0, 1, 4, 9, 10, 11], k + 1, by omega, by omega, fun q hq2 => ?_, rfl, rfl⟩
  · omega
  · by_cases e : q = k
    · rw [e]; exact heq
    · exact hq q (by omega)
 (try simp only [zB, reduceCtorEq] at hc7)
 refine aR ?_
 apply k2; clear k2; refine kp [0, 1, 4, 9, 10, 11, 12] ?_
 refine V fun _ k19 => ?_
 refine V fun _ k20 => ?_
 refine a9 hP hN rfl ?_
 iterate 5 (refine Z rfl fun _ k0 => ?_; simp only [zO, zT, acs, reduceCtorEq, J, D, M, U, O, S]; (repeat refine an ?_); (try refine .inl ?_); apply k0; clear k0; simp only [zP, D])
 refine aa ?_
 apply k20; clear k20; refine kp [0, 1, 4, 9, 10, 11, 12, 35] ?_
 refine cd (fun hc21 => ?_) (fun hc21 => ?_)
 ·(try simp only [zB, reduceCtorEq] at hc21)
  have h3 := hc21
  refine V fun _ k22 => ?_
  refine a9 hP hN rfl ?_
  (refine Z rfl fun _ k0 => ?_; simp only [zO, zT, acs, reduceCtorEq, J, D, M, U, O, S]; (repeat refine an ?_); (try refine .inl ?_); apply k0; clear k0; simp only [zP, D])
  refine aa ?_
  apply k22; clear k22; refine kp [0, 1, 4, 9, 10, 11, 12, 35] ?_
  refine ah ?_
  refine ⟨nr, _, rfl, ?_⟩; simp only [zF, zP, J, D]
  refine VLE.of_eq ?_
  refine congrArg (fun n => AV.one (AC.int IntKind.i64 n)) ?_
  symm
  first
  | exact iO hq (by omega) (by omega) (by omega)
  | exact fL (fun q hq2 => hq q (by omega)) (by omega)
  | (rw [dr (fun q hq2 => hq q (by omega)) (by omega), if_pos (by omega)]; done)
  | (rw [dr (fun q hq2 => hq q (by omega)) (by omega), if_neg (by omega)]; done)
 (try simp only [zB, reduceCtorEq] at hc21)
 have h3 := hc21
 refine ag ?_
 apply k19; clear k19; refine kp [0, 1, 4, 9, 10, 11, 12, 35] ?_
 refine V fun _ k23 => ?_
 refine a9 hP hN rfl ?_
 (refine Z rfl fun _ k0 => ?_; simp only [zO, zT, acs, reduceCtorEq, J, D, M, U, O, S]; (repeat refine an ?_); (try refine .inl ?_); apply k0; clear k0; simp only [zP, D])
 refine aa ?_
 apply k23; clear k23; refine kp [0, 1, 4, 9, 10, 11, 12, 35] ?_
 refine ah ?_
 refine ⟨nr, _, rfl, ?_⟩; simp only [zF, zP, J, D]
 refine VLE.of_eq ?_
 refine congrArg (fun n => AV.one (AC.int IntKind.i64 n)) ?_
 symm
 first
 | exact iO hq (by omega) (by omega) (by omega)
 | exact fL (fun q hq2 => hq q (by omega)) (by omega)
 | (rw [dr (fun q hq2 => hq q (by omega)) (by omega), if_pos (by omega)]; done)
 | (rw [dr (fun q hq2 => hq q (by omega)) (by omega), if_neg (by omega)]; done)
theorem qT (v w : List Int) : aV Tryd.prog 104 [.one (.list (.int .i64) v), .one (.list (.int .i64) w)] (.one (.int .i64 (bU v w))) := by
 refine aw Tryd.func104 rfl (by kernel_rfl) (Nat.le_of_ble_eq_true rfl) rfl fun C hP hN hB => ?_
 replace hN : C.N = 15 := hN
 simp only [aH, D]
 refine V fun _ k1 => ?_
 refine a9 hP hN rfl ?_
 (refine Z rfl fun _ k0 => ?_; simp only [zO, zT, acs, reduceCtorEq, J, D, M, U, O, S]; (repeat refine an ?_); (try refine .inl ?_); apply k0; clear k0; simp only [zP, D])
 refine aa ?_
 apply k1; clear k1; refine kp [0, 1, 4] ?_
 refine V fun _ k2 => ?_
 refine a9 hP hN rfl ?_
 iterate 4 (refine Z rfl fun _ k0 => ?_; simp only [zO, zT, acs, reduceCtorEq, J, D, M, U, O, S]; (repeat refine an ?_); (try refine .inl ?_); apply k0; clear k0; simp only [zP, D])
 refine Z rfl fun _ k0 => ?_
 refine ar (h := ae (qn v.length w.length)) rfl rfl (by first | exact rfl | (simp only [ev, zP, J, D]; exact rfl)) (by simp only [zV, acs, reduceCtorEq, J, D, M, U, O, S]) ?_
 apply k0; clear k0; simp only [zP, D]
 iterate 2 (refine Z rfl fun _ k0 => ?_; simp only [zO, zT, acs, reduceCtorEq, J, D, M, U, O, S]; (repeat refine an ?_); (try refine .inl ?_); apply k0; clear k0; simp only [zP, D])
 refine Z rfl fun _ k0 => ?_
 refine ar (h := ae (oP v w)) rfl rfl (by first | exact rfl | (simp only [ev, zP, J, D]; exact rfl)) (by simp only [zV, acs, reduceCtorEq, J, D, M, U, O, S]) ?_
 apply k0; clear k0; simp only [zP, D]
 (refine Z rfl fun _ k0 => ?_; simp only [zO, zT, acs, reduceCtorEq, J, D, M, U, O, S]; (repeat refine an ?_); (try refine .inl ?_); apply k0; clear k0; simp only [zP, D])
 refine Z rfl fun _ k0 => ?_
 refine ar (h := ae (sj (dR v.length w.length) (dE v w))) rfl rfl (by first | exact rfl | (simp only [ev, zP, J, D]; exact rfl)) (by simp only [zV, acs, reduceCtorEq, J, D, M, U, O, S]) ?_
 apply k0; clear k0; simp only [zP, D]
 (refine Z rfl fun _ k0 => ?_; simp only [zO, zT, acs, reduceCtorEq, J, D, M, U, O, S]; (repeat refine an ?_); (try refine .inl ?_); apply k0; clear k0; simp only [zP, D])
 refine aa ?_
 apply k2; clear k2; refine kp [0, 1, 4] ?_
 refine ah ?_
 refine ⟨nr, _, rfl, ?_⟩; simp only [zF, zP, J, D]
 refine VLE.of_eq ?_
 rw [ug]
theorem m9 (a b : TRC) : aV Tryd.prog 95 [.agg [.list (.int .i64) a.1, .list (.int .i64) a.2.1], .agg [.list (.int .i64) b.1, .list (.int .i64) b.2.1]] (.one (.int .i64 (bU a.1 b.1))) := by
 refine aw Tryd.func95 rfl (by kernel_rfl) (Nat.le_of_ble_eq_true rfl) rfl fun C hP hN hB => ?_
 replace hN : C.N = 10 := hN
 simp only [aH, D]
 refine V fun _ k1 => ?_
 refine a9 hP hN rfl ?_
 iterate 3 (refine Z rfl fun _ k0 => ?_; simp only [zO, zT, acs, reduceCtorEq, J, D, M, U, O, S]; (repeat refine an ?_); (try refine .inl ?_); apply k0; clear k0; simp only [zP, D])
 refine aa ?_
 apply k1; clear k1; refine kp [0, 1, 2, 3, 4] ?_
 refine V fun _ k2 => ?_
 refine a9 hP hN rfl ?_
 iterate 4 (refine Z rfl fun _ k0 => ?_; simp only [zO, zT, acs, reduceCtorEq, J, D, M, U, O, S]; (repeat refine an ?_); (try refine .inl ?_); apply k0; clear k0; simp only [zP, D])
 refine Z rfl fun _ k0 => ?_
 refine ar (h := ae (qT a.1 b.1)) rfl rfl (by first | exact rfl | (simp only [ev, zP, J, D]; exact rfl)) (by simp only [zV, acs, reduceCtorEq, J, D, M, U, O, S]) ?_
 apply k0; clear k0; simp only [zP, D]
 (refine Z rfl fun _ k0 => ?_; simp only [zO, zT, acs, reduceCtorEq, J, D, M, U, O, S]; (repeat refine an ?_); (try refine .inl ?_); apply k0; clear k0; simp only [zP, D])
 refine aa ?_
 apply k2; clear k2; refine kp [0, 1, 2, 3, 4] ?_
 refine ah ?_
 refine ⟨nr, _, rfl, ?_⟩; simp only [zF, zP, J, D]
 refine VLE.of_eq ?_
 rfl
theorem uG (xs : List TRC) (t : TRC) (hs : SRT xs) (hl : xs.length ≤ 1000000) : aV Tryd.prog 94 [.one (.list (.pair (.list (.int .i64)) (.pair (.list (.int .i64)) .unit)) xs), .agg [.list (.int .i64) t.1, .list (.int .i64) t.2.1], .one (.fn 95 [])] (.tup [.one (.int .i64 (plc xs t : Int)), .one (.bool (decide ((plc xs t : Int) < xs.length) && decide (bU (xs.getD (plc xs t) aQ).1 t.1 = 0)))]) := by
 refine aw Tryd.func94 rfl (by kernel_rfl) (Nat.le_of_ble_eq_true rfl) rfl fun C hP hN hB => ?_
 replace hN : C.N = 49 := hN
 simp only [aH, D]
 refine cQ 0 rfl fun hf0 => ?_; simp only [lkp, if_true, if_false, reduceCtorEq, J, eq_self, Nat.one_ne_zero, Nat.zero_ne_one, eP, eN, eB, Fit, and_true, implies_true, true_and] at hf0
 refine V fun _ k1 => ?_
 refine a9 hP hN rfl ?_
 iterate 3 (refine Z rfl fun _ k0 => ?_; simp only [zO, zT, acs, reduceCtorEq, J, D, M, U, O, S, bu, Int.toNat_one, Int.reducePow, Int.reduceToNat]; (repeat refine an ?_); (try refine .inl ?_); apply k0; clear k0; simp only [zP, D])
 refine aa ?_
 apply k1; clear k1; refine kp [0, 1, 2, 4, 6, 7] ?_
 refine V fun _ k2 => ?_
 refine a9 hP hN rfl ?_
 iterate 3 (refine Z rfl fun _ k0 => ?_; simp only [zO, zT, acs, reduceCtorEq, J, D, M, U, O, S, bu, Int.toNat_one, Int.reducePow, Int.reduceToNat]; (repeat refine an ?_); (try refine .inl ?_); apply k0; clear k0; simp only [zP, D])
 refine aa ?_
 apply k2; clear k2; refine kp [0, 1, 2, 4, 6, 7, 8] ?_
 refine V fun _ k3 => ?_
 refine a9 hP hN rfl ?_
 iterate 3 (refine Z rfl fun _ k0 => ?_; simp only [zO, zT, acs, reduceCtorEq, J, D, M, U, O, S, bu, Int.toNat_one, Int.reducePow, Int.reduceToNat]; (repeat refine an ?_); (try refine .inl ?_); apply k0; clear k0; simp only [zP, D])
 refine aa ?_
 apply k3; clear k3; refine kp [0, 1, 2, 4, 6, 7, 8, 9, 10] ?_
 refine V fun _ k4 => ?_
 refine au ?_
 refine aU (fun n5 s5 => ∃ (lo hi : Nat), (lo ≤ hi ∧ hi ≤ xs.length) ∧ (∀ q : Nat, q < lo → bU (xs.getD q aQ).1 t.1 < 0) ∧ (∀ q : Nat, hi ≤ q → q < xs.length → ¬ bU (xs.getD q aQ).1 t.1 < 0) ∧ n5 = hi - lo ∧ s5 = { env := [(0, .one (.list (.pair (.list (.int .i64)) (.pair (.list (.int .i64)) .unit)) xs)), (2, .one (.fn 95 [])), (4, .one (.ptr 0 0 0 0)), (6, .one (.int .i64 0)), (7, .one (.bool false)), (8, .one (.int .i64 (xs.length : Int))), (9, .one (.int .i64 (lo : Int))), (10, .one (.int .i64 (hi : Int)))], L := [.vars 60 [.list (.int .i64) t.1, .list (.int .i64) t.2.1]] }) ?_ ?_
 ·exact ⟨_, _, ak [0, 2, 4, 6, 7, 8, 9, 10], 0, xs.length, ⟨Nat.zero_le _, Nat.le_refl _⟩, fun q h => by omega, fun q h h2 => by omega, rfl, rfl⟩
 rintro n5 s5 ⟨lo, hi, hlo, h1, h2, rfl, rfl⟩
 refine V fun _ k6 => ?_
 refine V fun _ k7 => ?_
 refine a9 hP hN rfl ?_
 iterate 3 (refine Z rfl fun _ k0 => ?_; simp only [zO, zT, acs, reduceCtorEq, J, D, M, U, O, S, bu, Int.toNat_one, Int.reducePow, Int.reduceToNat]; (repeat refine an ?_); (try refine .inl ?_); apply k0; clear k0; simp only [zP, D])
 refine aa ?_
 apply k7; clear k7; refine kp [0, 2, 4, 6, 7, 8, 9, 10, 17] ?_
 refine cd (fun hc8 => ?_) (fun hc8 => ?_)
 ·(try simp only [zB, reduceCtorEq] at hc8)
  refine ag ?_
  apply k6; clear k6; refine kp [0, 2, 4, 6, 7, 8, 9, 10, 17] ?_
  refine au ?_
  refine V fun _ k9 => ?_
  refine a9 hP hN rfl ?_
  iterate 3 (refine Z rfl fun _ k0 => ?_; simp only [zO, zT, acs, reduceCtorEq, J, D, M, U, O, S, bu, Int.toNat_one, Int.reducePow, Int.reduceToNat]; (repeat refine an ?_); (try refine .inl ?_); apply k0; clear k0; simp only [zP, D])
  (refine Z rfl fun _ k0 => ?_; simp only [zE, op1, ev, lkp, ch, bg, di, bm, cA, cG, ck, d4, fJ, reduceCtorEq, J, D, M, U, O, S, Tryd.td122, Tryd.td3, bu, Int.toNat_one, Int.reducePow, Int.reduceToNat]; (repeat refine an ?_); (try refine .inl ?_); apply k0; clear k0; simp only [zP, D])
  (refine Z rfl fun _ k0 => ?_; simp only [zO, zT, acs, reduceCtorEq, J, D, M, U, O, S, bu, Int.toNat_one, Int.reducePow, Int.reduceToNat]; (repeat refine an ?_); (try refine .inl ?_); apply k0; clear k0; simp only [zP, D])
  (refine Z rfl fun _ k0 => ?_; simp only [zE, op1, ev, lkp, ch, bg, di, bm, cA, cG, ck, d4, fJ, reduceCtorEq, J, D, M, U, O, S, Tryd.td122, Tryd.td3, bu, Int.toNat_one, Int.reducePow, Int.reduceToNat]; (repeat refine an ?_); (try refine .inl ?_); apply k0; clear k0; simp only [zP, D])
  (refine Z rfl fun _ k0 => ?_; simp only [zO, zT, acs, reduceCtorEq, J, D, M, U, O, S, bu, Int.toNat_one, Int.reducePow, Int.reduceToNat]; (repeat refine an ?_); (try refine .inl ?_); apply k0; clear k0; simp only [zP, D])
  refine aa ?_
  apply k9; clear k9; refine kp [0, 2, 4, 6, 7, 8, 9, 10, 11, 17] ?_
  refine V fun _ k10 => ?_
  have hmid : ((lo : Int) + (hi : Int)) / 2 = (((lo + hi) / 2) : Nat) := by omega
  rw [hmid]
  have hml : ((lo + hi) / 2) < xs.length := by omega
  obtain ⟨x1, x2, hgx⟩ : ∃ x1 x2, ∀ d, xs.getD ((lo + hi) / 2) d = (x1, (x2, ())) := ⟨_, _, cM (by omega)⟩
  refine bS hP hN Tryd.mixed rfl ?_
  iterate 6 (refine Z rfl fun _ k0 => ?_; simp only [zO, zT, acs, reduceCtorEq, J, D, M, U, O, S, bu, Int.toNat_one, Int.reducePow, Int.reduceToNat, gt, af, hgx]; (repeat refine an ?_); (try refine .inl ?_); apply k0; clear k0; simp only [zP, D])
  refine Z rfl fun _ k0 => ?_
  refine ar (h := ae (m9 (x1, (x2, ())) t)) rfl rfl (by first | exact rfl | (simp only [ev, zP, J, D]; exact rfl)) (by simp only [zV, acs, reduceCtorEq, J, D, M, U, O, S, bu, Int.toNat_one, Int.reducePow, Int.reduceToNat, gt, af, hgx]) ?_
  apply k0; clear k0; simp only [zP, D]
  (refine Z rfl fun _ k0 => ?_; simp only [zO, zT, acs, reduceCtorEq, J, D, M, U, O, S, bu, Int.toNat_one, Int.reducePow, Int.reduceToNat, gt, af, hgx]; (repeat refine an ?_); (try refine .inl ?_); apply k0; clear k0; simp only [zP, D])
  refine aa ?_
  refine ⟨by kernel_rfl, ?_⟩
  apply k10; clear k10; refine kp [0, 2, 4, 6, 7, 8, 9, 10, 11, 17, 31] ?_
  refine cd (fun hc11 => ?_) (fun hc11 => ?_)
  ·(try simp only [zB, reduceCtorEq] at hc11)
   have hv : bU (xs.getD ((lo + hi) / 2) aQ).1 t.1 < 0 := by rw [hgx]; simpa using hc11
   refine a9 hP hN rfl ?_
   iterate 3 (refine Z rfl fun _ k0 => ?_; simp only [zO, zT, acs, reduceCtorEq, J, D, M, U, O, S, bu, Int.toNat_one, Int.reducePow, Int.reduceToNat]; (repeat refine an ?_); (try refine .inl ?_); apply k0; clear k0; simp only [zP, D])
   refine aa ?_
   first
   | (refine ⟨_, _, ?_, ak [0, 2, 4, 6, 7, 8, 9, 10], ((lo + hi) / 2) + 1, hi, ⟨by omega, hlo.2⟩, fun q hq => ?_, h2, rfl, rfl⟩
      · omega
      · by_cases e : q = ((lo + hi) / 2)
        · rw [e]; exact hv
        · exact dW (iG hs (show q < ((lo + hi) / 2) by omega) hml) hv)
   | (refine ⟨_, _, ?_, ak [0, 2, 4, 6, 7, 8, 9, 10], lo, ((lo + hi) / 2), ⟨by omega, by omega⟩, h1, fun q hq hq2 hv2 => ?_, rfl, rfl⟩
      · omega
      · by_cases e : q = ((lo + hi) / 2)
        · rw [e] at hv2; exact hv hv2
        · exact hv (dW (iG hs (show ((lo + hi) / 2) < q by omega) hq2) hv2))
  (try simp only [zB, reduceCtorEq] at hc11)
  have hv : ¬ bU (xs.getD ((lo + hi) / 2) aQ).1 t.1 < 0 := by rw [hgx]; simpa using hc11
  refine a9 hP hN rfl ?_
  iterate 2 (refine Z rfl fun _ k0 => ?_; simp only [zO, zT, acs, reduceCtorEq, J, D, M, U, O, S, bu, Int.toNat_one, Int.reducePow, Int.reduceToNat]; (repeat refine an ?_); (try refine .inl ?_); apply k0; clear k0; simp only [zP, D])
  refine aa ?_
  first
  | (refine ⟨_, _, ?_, ak [0, 2, 4, 6, 7, 8, 9, 10], ((lo + hi) / 2) + 1, hi, ⟨by omega, hlo.2⟩, fun q hq => ?_, h2, rfl, rfl⟩
     · omega
     · by_cases e : q = ((lo + hi) / 2)
       · rw [e]; exact hv
       · exact dW (iG hs (show q < ((lo + hi) / 2) by omega) hml) hv)
  | (refine ⟨_, _, ?_, ak [0, 2, 4, 6, 7, 8, 9, 10], lo, ((lo + hi) / 2), ⟨by omega, by omega⟩, h1, fun q hq hq2 hv2 => ?_, rfl, rfl⟩
     · omega
     · by_cases e : q = ((lo + hi) / 2)
       · rw [e] at hv2; exact hv hv2
       · exact hv (dW (iG hs (show ((lo + hi) / 2) < q by omega) hq2) hv2))
 (try simp only [zB, reduceCtorEq] at hc8)
 refine aR ?_
 apply k4; clear k4; refine kp [0, 2, 4, 6, 7, 8, 9, 10, 17] ?_
 refine V fun _ k12 => ?_
 have hlh : lo = hi := by omega
 have hpl : plc xs t = lo := tV hs h1 (by omega) (fun q hq hq2 => h2 q (by omega) hq2)
 obtain ⟨x1, x2, hgx0⟩ : ∃ x1 x2, xs.getD lo aQ = (x1, (x2, ())) := ⟨_, _, rfl⟩
 have hgx : xs.getD lo ([], ([], ())) = (x1, (x2, ())) := hgx0
 refine bS hP hN Tryd.mixed rfl ?_
 iterate 5 (refine Z rfl fun _ k0 => ?_; simp only [zO, zT, acs, reduceCtorEq, J, D, M, U, O, S, bu, Int.toNat_one, Int.reducePow, Int.reduceToNat, gt, af, hgx]; (repeat refine an ?_); (try refine .inl ?_); apply k0; clear k0; simp only [zP, D])
 refine' aB (want := true) 8 rfl (m := 39) (by simp only [zP, J, D]; exact rfl) (by kernel_rfl) rfl rfl rfl rfl rfl (fun hg13 => ?a13) ?b13 ?c13
 case a13 =>
  have hq13 := hg13; (try simp only [zB, reduceCtorEq] at hg13); simp only [zE]
  iterate 6 (refine aL rfl fun _ k0 => ?_; simp only [zO, zT, acs, reduceCtorEq, J, D, M, U, O, S, bu, Int.toNat_one, Int.reducePow, Int.reduceToNat, gt, af, hgx]; (repeat refine an ?_); (try refine .inl ?_); apply k0; clear k0; simp only [zP, D])
  refine aL rfl fun _ k0 => ?_
  refine ar (h := ae (m9 (x1, (x2, ())) t)) rfl rfl (by first | exact rfl | (simp only [ev, zP, J, D]; exact rfl)) (by simp only [zV, acs, reduceCtorEq, J, D, M, U, O, S, bu, Int.toNat_one, Int.reducePow, Int.reduceToNat, gt, af, hgx]) ?_
  apply k0; clear k0; simp only [zP, D]
  (refine aL rfl fun _ k0 => ?_; simp only [zO, zT, acs, reduceCtorEq, J, D, M, U, O, S, bu, Int.toNat_one, Int.reducePow, Int.reduceToNat, gt, af, hgx]; (repeat refine an ?_); (try refine .inl ?_); apply k0; clear k0; simp only [zP, D])
  (refine Z rfl fun _ k0 => ?_; simp only [zO, zT, acs, reduceCtorEq, J, D, M, U, O, S, bu, Int.toNat_one, Int.reducePow, Int.reduceToNat, gt, af, hgx]; (repeat refine an ?_); (try refine .inl ?_); apply k0; clear k0; simp only [zP, D])
  refine aa ?_
  refine ⟨by simp only [zP, J, D]; exact rfl, rfl, ?_, rfl⟩; (repeat refine aA rfl ?_); exact aN (by exact rfl) hq13
 case b13 => exact bc
 simp only [aK, aF]
 iterate 2 (refine Z rfl fun _ k0 => ?_; simp only [zO, zT, acs, reduceCtorEq, J, D, M, U, O, S, bu, Int.toNat_one, Int.reducePow, Int.reduceToNat, gt, af, hgx]; (repeat refine an ?_); (try refine .inl ?_); apply k0; clear k0; simp only [zP, D])
 refine aa ?_
 refine ⟨by kernel_rfl, ?_⟩
 apply k12; clear k12; refine kp [0, 2, 4, 6, 7, 8, 9, 10, 17] ?_
 refine ah ?_
 refine ⟨nr, _, rfl, ?_⟩; simp only [zF, zP, J, D, bu, Int.toNat_one, Int.reducePow, Int.reduceToNat]
 refine VLE.of_eq ?_
 simp only [hpl, hgx0]
theorem pS  : aV Tryd.prog 101 [.one .nils] (.one .nils) := by
 refine aw Tryd.func101 rfl (by kernel_rfl) (Nat.le_of_ble_eq_true rfl) rfl fun C hP hN hB => ?_
 replace hN : C.N = 8 := hN
 simp only [aH, D]
 refine V fun _ k1 => ?_
 refine a9 hP hN rfl ?_
 (refine Z rfl fun _ k0 => ?_; simp only [zO, zT, acs, reduceCtorEq, J, D, M, U, O, S]; (repeat refine an ?_); (try refine .inl ?_); apply k0; clear k0; simp only [zP, D])
 refine aa ?_
 apply k1; clear k1; refine kp [0, 2] ?_
 refine V fun _ k2 => ?_
 refine V fun _ k3 => ?_
 refine a9 hP hN rfl ?_
 iterate 2 (refine Z rfl fun _ k0 => ?_; simp only [zO, zT, acs, reduceCtorEq, J, D, M, U, O, S]; (repeat refine an ?_); (try refine .inl ?_); apply k0; clear k0; simp only [zP, D])
 refine aa ?_
 apply k3; clear k3; refine kp [0, 2, 4] ?_
 refine cd (fun hc4 => ?_) (fun hc4 => ?_)
 ·(try simp only [zB, reduceCtorEq] at hc4)
  refine V fun _ k5 => ?_
  refine a9 hP hN rfl ?_
  (refine Z rfl fun _ k0 => ?_; simp only [zO, zT, acs, reduceCtorEq, J, D, M, U, O, S]; (repeat refine an ?_); (try refine .inl ?_); apply k0; clear k0; simp only [zP, D])
  refine aa ?_
  apply k5; clear k5; refine kp [0, 2, 4] ?_
  refine ah ?_
  refine ⟨nr, _, rfl, ?_⟩; simp only [zF, zP, J, D]
  refine VLE.of_eq ?_
  rfl
 · exfalso; (try simp only [zB, reduceCtorEq] at hc4); all_goals (first | (cases hc4; done) | omega | (simp at hc4; done) | (simp_all; done))
theorem tF  : aV Tryd.prog 101 [.one .emp] (.one (.list (.int .i64) [])) := by
 refine aw Tryd.func101 rfl (by kernel_rfl) (Nat.le_of_ble_eq_true rfl) rfl fun C hP hN hB => ?_
 replace hN : C.N = 8 := hN
 simp only [aH, D]
 refine V fun _ k1 => ?_
 refine a9 hP hN rfl ?_
 (refine Z rfl fun _ k0 => ?_; simp only [zO, zT, acs, reduceCtorEq, J, D, M, U, O, S]; (repeat refine an ?_); (try refine .inl ?_); apply k0; clear k0; simp only [zP, D])
 refine aa ?_
 apply k1; clear k1; refine kp [0, 2] ?_
 refine V fun _ k2 => ?_
 refine V fun _ k3 => ?_
 refine a9 hP hN rfl ?_
 iterate 2 (refine Z rfl fun _ k0 => ?_; simp only [zO, zT, acs, reduceCtorEq, J, D, M, U, O, S]; (repeat refine an ?_); (try refine .inl ?_); apply k0; clear k0; simp only [zP, D])
 refine aa ?_
 apply k3; clear k3; refine kp [0, 2, 4] ?_
 refine cd (fun hc4 => ?_) (fun hc4 => ?_)
 · exfalso; (try simp only [zB, reduceCtorEq] at hc4); all_goals (first | (cases hc4; done) | omega | (simp at hc4; done) | (simp_all; done))
 (try simp only [zB, reduceCtorEq] at hc4)
 refine ag ?_
 apply k2; clear k2; refine kp [0, 2, 4] ?_
 refine V fun _ k5 => ?_
 refine a9 hP hN rfl ?_
 (refine Z rfl fun _ k0 => ?_; simp only [zO, zT, acs, reduceCtorEq, J, D, M, U, O, S]; (repeat refine an ?_); refine Or.inr (Or.inl (k0 _ ?_)); clear k0; simp only [zP, D])
 iterate 3 (refine Z rfl fun _ k0 => ?_; simp only [zO, zT, acs, reduceCtorEq, J, D, M, U, O, S]; (repeat refine an ?_); (try refine .inl ?_); apply k0; clear k0; simp only [zP, D])
 refine aa ?_
 apply k5; clear k5; refine kp [0, 2, 4] ?_
 refine ah ?_
 refine ⟨nr, _, rfl, ?_⟩; simp only [zF, zP, J, D]
 refine VLE.of_eq ?_
 rfl
theorem tU (xs : List Int) (h0 : 0 < xs.length) (h1 : xs.length ≤ 10000000000000) : aV Tryd.prog 101 [.one (.list (.int .i64) xs)] (.one (.list (.int .i64) xs)) := by
 refine aw Tryd.func101 rfl (by kernel_rfl) (Nat.le_of_ble_eq_true rfl) rfl fun C hP hN hB => ?_
 replace hN : C.N = 8 := hN
 simp only [aH, D]
 refine V fun _ k1 => ?_
 refine a9 hP hN rfl ?_
 (refine Z rfl fun _ k0 => ?_; simp only [zO, zT, acs, reduceCtorEq, J, D, M, U, O, S]; (repeat refine an ?_); (try refine .inl ?_); apply k0; clear k0; simp only [zP, D])
 refine aa ?_
 apply k1; clear k1; refine kp [0, 2] ?_
 refine V fun _ k2 => ?_
 refine V fun _ k3 => ?_
 refine a9 hP hN rfl ?_
 iterate 2 (refine Z rfl fun _ k0 => ?_; simp only [zO, zT, acs, reduceCtorEq, J, D, M, U, O, S]; (repeat refine an ?_); (try refine .inl ?_); apply k0; clear k0; simp only [zP, D])
 refine aa ?_
 apply k3; clear k3; refine kp [0, 2, 4] ?_
 refine cd (fun hc4 => ?_) (fun hc4 => ?_)
 · exfalso; (try simp only [zB, reduceCtorEq] at hc4); all_goals (first | (cases hc4; done) | omega | (simp at hc4; done) | (simp_all; done))
 (try simp only [zB, reduceCtorEq] at hc4)
 refine ag ?_
 apply k2; clear k2; refine kp [0, 2, 4] ?_
 refine V fun _ k5 => ?_
 refine a9 hP hN rfl ?_
 (refine Z rfl fun _ k0 => ?_; simp only [zO, zT, acs, reduceCtorEq, J, D, M, U, O, S]; (repeat refine an ?_); refine Or.inr (Or.inl (k0 _ ?_)); clear k0; simp only [zP, D])
 iterate 3 (refine Z rfl fun _ k0 => ?_; simp only [zO, zT, acs, reduceCtorEq, J, D, M, U, O, S]; (repeat refine an ?_); (try refine .inl ?_); apply k0; clear k0; simp only [zP, D])
 refine aa ?_
 apply k5; clear k5; refine kp [0, 2, 4] ?_
 refine ah ?_
 refine ⟨nr, _, rfl, ?_⟩; simp only [zF, zP, J, D]
 refine VLE.of_eq ?_
 rfl
theorem nO (xs : List Int) (h : xs.length ≤ 10000000000000) : aV Tryd.prog 101 [.one (.list (.int .i64) xs)] (.one (.list (.int .i64) xs)) :=
  oD (t := .int .i64) (fun e => pe pS (iR (aE e))) (fun e => by subst e; exact tF) (fun h0 => tU xs h0 h) pS.1

theorem m3 (t : TRC) (h1 : t.1.length ≤ 100000) (h2 : t.2.1.length ≤ 100000) : aV Tryd.prog 88 [.agg [.list (.int .i64) t.1, .list (.int .i64) t.2.1]] (.agg [.list (.int .i64) t.1, .list (.int .i64) t.2.1]) := by
 refine aw Tryd.func88 rfl (by kernel_rfl) (Nat.le_of_ble_eq_true rfl) rfl fun C hP hN hB => ?_
 replace hN : C.N = 10 := hN
 simp only [aH, D]
 refine V fun _ k1 => ?_
 refine a9 hP hN rfl ?_
 iterate 2 (refine Z rfl fun _ k0 => ?_; simp only [zO, zT, acs, reduceCtorEq, J, D, M, U, O, S]; (repeat refine an ?_); (try refine .inl ?_); apply k0; clear k0; simp only [zP, D])
 refine aa ?_
 apply k1; clear k1; refine kp [0, 1, 2] ?_
 refine V fun _ k2 => ?_
 refine bS hP hN Tryd.mixed rfl ?_
 iterate 2 (refine Z rfl fun _ k0 => ?_; simp only [zO, zT, acs, reduceCtorEq, J, D, M, U, O, S]; (repeat refine an ?_); (try refine .inl ?_); apply k0; clear k0; simp only [zP, D])
 refine Z rfl fun _ k0 => ?_
 refine ar (h := ae (nO t.1 (by omega))) rfl rfl (by first | exact rfl | (simp only [ev, zP, J, D]; exact rfl)) (by simp only [zV, acs, reduceCtorEq, J, D, M, U, O, S]) ?_
 apply k0; clear k0; simp only [zP, D]
 iterate 2 (refine Z rfl fun _ k0 => ?_; simp only [zO, zT, acs, reduceCtorEq, J, D, M, U, O, S]; (repeat refine an ?_); (try refine .inl ?_); apply k0; clear k0; simp only [zP, D])
 refine Z rfl fun _ k0 => ?_
 refine ar (h := ae (nO t.2.1 (by omega))) rfl rfl (by first | exact rfl | (simp only [ev, zP, J, D]; exact rfl)) (by simp only [zV, acs, reduceCtorEq, J, D, M, U, O, S]) ?_
 apply k0; clear k0; simp only [zP, D]
 iterate 2 (refine Z rfl fun _ k0 => ?_; simp only [zO, zT, acs, reduceCtorEq, J, D, M, U, O, S]; (repeat refine an ?_); (try refine .inl ?_); apply k0; clear k0; simp only [zP, D])
 refine aa ?_
 refine ⟨by kernel_rfl, ?_⟩
 apply k2; clear k2; refine kp [0, 1, 2] ?_
 refine ah ?_
 refine ⟨nr, _, rfl, ?_⟩; simp only [zF, zP, J, D]
 refine VLE.of_eq ?_
 rfl
/- packTy; lg8Th -/
section
open Go.RowKit Go.Shelf Go.Lib Go.Proofs
theorem fP {P : Program} (w : World) (dT sT ty elem : TypeId) (g o dLen dCap : Nat) (a : Addr) (sLen sCap : Nat) (cur : Array Value) (t : TypeId) (cs : List Value) (k sz : Nat)
    (hu : P.underlying dT = some (.slice elem)) (hs : ∀ w, (sizeOf elem).run P w = .ok sz w)
    (hg : w.heap[g]? = some (.cells cur t (0, 0))) (hk : Nat.min sLen dLen = k) (hn : cs.length = k * sz)
    (hsrc : ∀ j v, cs[j]? = some v → w.cell? (a.add j) = some v) (hfit : o + cs.length ≤ cur.size) (h1 : ∀ v ∈ cs, v.oneCell' = true) :
    (Builtin.copy_ #[dT, sT] ty #[.slice (some ⟨g, o, none⟩) dLen dCap, .slice (some a) sLen sCap]).run P w =
      .ok (goInt k) (w.setRow g (splice cur.toList o cs).toArray) := by
  have hl := run_firstCells_some (P := P) w sz k a sLen sCap cs hn hsrc
  have hst := run_storeCells_at P g o t cs 0 cur w hg (by simpa using hfit) h1
  simp only [Nat.add_zero] at hst
  subst hk
  simp [Builtin.copy_, run_underlying hu, Builtin.lenOf, hs, hl, hst, splice]
def INS (w : World) (v : Value) (n i : Nat) (flat vs : List Value) (v' : Value) (w' : World) : Prop :=
  w'.ownsRow 0 60 2 v' (n + 1) (flat.take (i * 2) ++ vs ++ flat.drop (i * 2)) ∧ w.grownBy w' v.ownBlock ∧ (v'.ownBlock = v.ownBlock ∨ v'.ownBlock = some w.heap.size)
set_option maxHeartbeats 4000000 in
theorem pc (g n c i vb vc : Nat) (cur vcur : Array Value) (flat vs : List Value) (w : World) (hi : i < n) (hroom : n + 1 ≤ c) (hc : c ≤ maxLen) (hcs : cur.size = c * 2)
    (hg : w.heap[g]? = some (.cells cur 60 (0, 0))) (htk : cur.toList.take (n * 2) = flat) (hvb : w.heap[vb]? = some (.cells vcur 60 (0, 0))) (hvl : vs.length = 2) (hvk : vcur.toList.take 2 = vs) (hne : vb ≠ g)
    (h1 : ∀ v ∈ flat, v.oneCell' = true) (h2 : ∀ v ∈ vs, v.oneCell' = true) :
    Calls Tryd.prog 96 #[.slice (some ⟨g, 0, none⟩) n c, .int .i64 i, .slice (some ⟨vb, 0, none⟩) 1 vc] w fun e w' => ∃ v', e = .returned v' ∧ INS w (.slice (some ⟨g, 0, none⟩) n c) n i flat vs v' w' := by
  have hcm : c ≤ 9223372036854775807 := by simp only [maxLen] at hc; omega
  have hvs2 : 2 ≤ vcur.size := by rw [← hvk, List.length_take, Array.length_toList] at hvl; omega
  have hfl : flat.length = n * 2 := by rw [← htk, List.length_take, Array.length_toList]; omega
  have hov : ∀ lb cb off, (callFunc 105 #[.slice (some ⟨vb, 0, none⟩) 1 vc, .slice (some ⟨g, off, none⟩) lb cb]).run Tryd.prog w = .ok (.value (.bool false)) w := fun lb cb off => by
    rw [run_callFunc_extern Tryd.func105 (by kernel_rfl) (by kernel_rfl) (by kernel_rfl) (e := Extern.SlicesOverlaps.overlaps #[27, 27] #[4]) (by kernel_rfl),
      Lib.run_overlaps_apart w 27 4 60 Tryd.underlying27 2 Tryd.sizeOf60 ⟨vb, 0, none⟩ ⟨g, off, none⟩ 1 vc lb cb hne 60 60 vcur.size cur.size (by simp [World.shape?, hvb]) (by simp [World.shape?, hg]) (by omega) (by simp [World.frozen?, hvb]) (by simp [World.frozen?, hvb])]
    rfl
  have hz2 : ¬ ((i : Int) = (n : Int)) := by omega
  have hw1 : IntKind.i64.wrap ((i : Int) + 1) = (i : Int) + 1 := by rw [IntKind.wrap_i64]; omega
  have hb1 : (0 : Int) ≤ (i : Int) + 1 := by omega
  have hin : i ≤ n := by omega
  have htn : ((i : Int) + 1).toNat = i + 1 := by omega
  have hb2 : ¬ (c = i + 1) := by omega
  have hb3 : (i : Int) ≤ (n : Int) + 1 := by omega
  have hb4 : ¬ (c = i) := by omega
  have hdl : (flat.drop (i * 2)).length = (n - i) * 2 := by rw [List.length_drop]; omega
  have hcl : cur.toList.length = c * 2 := by rw [Array.length_toList]; exact hcs
  have hfc : ∀ j v, flat[j]? = some v → cur[j]? = some v := fun j v hj => by
    rw [← htk, List.getElem?_take] at hj
    split at hj
    · simpa using hj
    · cases hj
  obtain ⟨cur1, hcur1⟩ : ∃ cur1, cur1 = (splice cur.toList ((i + 1) * 2) (flat.drop (i * 2))).toArray := ⟨_, rfl⟩
  have hl1 : cur1.size = c * 2 := by rw [hcur1, List.size_toArray, length_splice _ _ _ (by rw [hdl]; omega), hcl]
  obtain ⟨cur2, hcur2⟩ : ∃ cur2, cur2 = (splice cur1.toList (i * 2) vs).toArray := ⟨_, rfl⟩
  have hc1l : cur1.toList.length = c * 2 := by rw [Array.length_toList]; exact hl1
  have hl2 : cur2.size = c * 2 := by rw [hcur2, List.size_toArray, length_splice _ _ _ (by omega), hc1l]
  have hcp1 : ∀ (W : World), W.heap = w.heap → ∀ ty dc sc l1 l2 o1 o2, l1 = n - i → l2 = n + 1 - i → o1 = (i + 1) * 2 → o2 = i * 2 → (Builtin.copy_ #[27, 27] ty #[.slice (some ⟨g, o1, none⟩) l1 dc, .slice (some ⟨g, o2, none⟩) l2 sc]).run Tryd.prog W = .ok (goInt ((n - i : Nat) : Int)) (W.setRow g cur1) := fun W hW ty dc sc l1 l2 o1 o2 e1 e2 e3 e4 => by
    subst e1 e2 e3 e4
    rw [hcur1]
    exact fP W 27 27 ty 60 g ((i + 1) * 2) (n - i) dc ⟨g, i * 2, none⟩ (n + 1 - i) sc cur 60 (flat.drop (i * 2)) (n - i) 2 Tryd.underlying27 Tryd.sizeOf60 (by rw [hW]; exact hg) (by simp only [Nat.min_def]; split <;> omega) hdl
      (fun j v hj => by
        rw [Addr.add_lit]
        simp only [World.cell?, hW, hg]
        rw [List.getElem?_drop] at hj
        exact hfc _ _ hj) (by omega) (fun v hv => h1 v (List.mem_of_mem_drop hv))
  have hg1 : ∀ W : World, W.heap = w.heap → (W.setRow g cur1).heap[g]? = some (.cells cur1 60 (0, 0)) := fun W hW => setRow_heap W g cur cur1 60 (0, 0) (by rw [hW]; exact hg)
  have hv1 : ∀ W : World, W.heap = w.heap → (W.setRow g cur1).heap[vb]? = some (.cells vcur 60 (0, 0)) := fun W hW => by rw [setRow_other W g vb cur1 hne, hW]; exact hvb
  have hcp2 : ∀ (W : World), W.heap[g]? = some (.cells cur1 60 (0, 0)) → W.heap[vb]? = some (.cells vcur 60 (0, 0)) → ∀ ty dc l1 o1, l1 = n + 1 - i → o1 = i * 2 → (Builtin.copy_ #[27, 27] ty #[.slice (some ⟨g, o1, none⟩) l1 dc, .slice (some ⟨vb, 0, none⟩) 1 vc]).run Tryd.prog W = .ok (goInt 1) (W.setRow g cur2) := fun W hW hV ty dc l1 o1 e1 e2 => by
    subst e1 e2
    rw [hcur2]
    exact fP W 27 27 ty 60 g (i * 2) (n + 1 - i) dc ⟨vb, 0, none⟩ 1 vc cur1 60 vs 1 2 Tryd.underlying27 Tryd.sizeOf60 hW (by simp only [Nat.min_def]; split <;> omega) hvl
      (fun j v hj => by
        rw [Addr.add_lit]
        simp only [World.cell?, hV, Nat.zero_add]
        rw [← hvk, List.getElem?_take] at hj
        split at hj
        · simpa using hj
        · cases hj) (by omega) h2
  have hfin : ∀ W : World, W.heap[g]? = some (.cells cur1 60 (0, 0)) → w.grownBy W (some g) → INS w (.slice (some ⟨g, 0, none⟩) n c) n i flat vs (.slice (some ⟨g, 0, none⟩) (n + 1) c) (W.setRow g cur2) := fun W hW hG => by
    have hu : List.take ((n + 1) * 2) cur2.toList = flat.take (i * 2) ++ vs ++ flat.drop (i * 2) := by
      rw [hcur2, hcur1]
      simp only [splice, hvl, hdl, List.toList_toArray]
      have a1 : (cur.toList.take ((i + 1) * 2)).length = (i + 1) * 2 := by rw [List.length_take]; omega
      have b1 : List.take (i * 2) (cur.toList.take ((i + 1) * 2) ++ (flat.drop (i * 2) ++ cur.toList.drop ((i + 1) * 2 + (n - i) * 2))) = flat.take (i * 2) := by
        rw [List.take_append_of_le_length (by omega), List.take_take, ← htk, List.take_take]
        congr 1; omega
      have b2 : List.drop (i * 2 + 2) (cur.toList.take ((i + 1) * 2) ++ (flat.drop (i * 2) ++ cur.toList.drop ((i + 1) * 2 + (n - i) * 2))) = flat.drop (i * 2) ++ cur.toList.drop ((i + 1) * 2 + (n - i) * 2) := by
        rw [List.drop_append, List.drop_of_length_le (by omega), aY, a1, show i * 2 + 2 - (i + 1) * 2 = 0 by omega, List.drop_zero]
      rw [b1, b2, ← List.append_assoc, ← List.append_assoc]
      rw [List.take_append_of_le_length (by simp only [aj, List.length_take, hvl, hdl]; omega)]
      rw [List.take_of_length_le (by simp only [aj, List.length_take, hvl, hdl]; omega)]
    refine ⟨⟨?_, .inr ⟨g, c, cur2, rfl, Nat.zero_le _, setRow_heap W g cur1 cur2 60 (0, 0) hW, hroom, hc, hl2, hu⟩⟩, ⟨hG.os, hG.tape, hG.output, ?_, fun k hk hk2 => ?_⟩, .inl rfl⟩
    · simp only [aj, List.length_take, hvl, hdl]; omega
    · have := hG.size; simpa [World.setRow] using this
    · have hkg : k ≠ g := fun e => hk2 (by rw [e]; rfl)
      rw [setRow_other W g k cur2 hkg]
      exact hG.block k hk (fun e => hkg (Option.some.inj e))
  have hgb : ∀ W : World, W.heap = w.heap → W.os = w.os → W.tape = w.tape → W.output = w.output → w.grownBy (W.setRow g cur1) (some g) := fun W e1 e2 e3 e4 =>
    ⟨e2, e3, e4, by simp [World.setRow, e1], fun k _ hk => by rw [setRow_other W g k cur1 (fun e => hk (by rw [e])), e1]⟩
  clear hcur1 hcur2 hl1 hl2 hc1l hfc hcl hdl hfl htk hvl hvk h1 h2 hvs2
  have mixed := Tryd.mixed
  go_enter Tryd.func96, Tryd.ntmps96
  go_wp2_with (simp only [hov])
  go_region_law_o (refine step_copy_runI rfl _ _ 27 27 rfl (.slice (some ⟨g, (i + 1) * 2, none⟩) (n - i) (c - (i + 1))) (.slice (some ⟨g, i * 2, none⟩) (n + 1 - i) (c - i)) (by simp [Act.eval, Act.put]) (by simp [Act.eval, Act.put]) (hcp1 w.drew rfl _ _ _ _ _ _ _ (by omega) (by omega) (by omega) (by omega)) ?_)
  have hE2 := fun ty dc => hcp2 (w.drew.setRow g cur1) (hg1 w.drew rfl) (hv1 w.drew rfl) ty dc (n + 1 - i) (i * 2) rfl rfl
  go_wp2_with (simp only [hE2])
  go_ret
  exact ⟨_, rfl, hfin (w.drew.setRow g cur1) (hg1 w.drew rfl) (hgb w.drew rfl rfl rfl rfl)⟩
set_option maxHeartbeats 4000000 in
theorem sN (v : Value) (n vb vc : Nat) (vcur : Array Value) (flat vs : List Value) (w : World) (hn : n ≤ 1000000) (hown : w.ownsRow 0 60 2 v n flat)
    (hvb : w.heap[vb]? = some (.cells vcur 60 (0, 0))) (hvl : vs.length = 2) (hvk : vcur.toList.take 2 = vs) (h2 : ∀ v ∈ vs, v.oneCell' = true) :
    Calls Tryd.prog 96 #[v, .int .i64 n, .slice (some ⟨vb, 0, none⟩) 1 vc] w fun e w' => ∃ v', e = .returned v' ∧ INS w v n n flat vs v' w' := by
  obtain ⟨d, i0, z0, g1, g2, g3, g4, g5, g6, g7⟩ := bH Tryd.td60
  have hzs : z0.cells.size = 2 := by
    have := bf (C := ⟨Tryd.prog, fun _ => False, fun _ => False, w, 0, [], fun _ => undef, w⟩) (L := []) (σ := fun _ => undef) (w := w) g4
    rw [← Array.length_toList, ← this.length]; rfl
  obtain ⟨v', w', r1, r2, r3, _, r5⟩ := run_append_own_at (P := Tryd.prog) w 0 27 27 60 i0 z0 2 48 Tryd.underlying27 g2 g3 g5 g6 hzs (by decide) v n flat hown ⟨vb, 0, none⟩ 1 vc vs (by omega)
    (fun j v hj => by
      rw [Addr.add_lit]
      simp only [World.cell?, hvb, Nat.zero_add]
      rw [← hvk, List.getElem?_take] at hj
      split at hj
      · simpa using hj
      · cases hj) h2 (by simp only [maxLen]; omega) (by omega) (Nat.zero_le _)
  have hfl := hown.1
  have hfin : INS w v n n flat vs v' w' := by
    refine ⟨?_, r3, r5⟩
    rw [← hfl, az, List.drop_length, List.append_nil]; exact r2
  rcases hown.2 with ⟨rfl, rfl⟩ | ⟨g, c, cur, rfl, _, hg, hnc, hcm, hcs, htk⟩
  · clear hown hfl r2 r3 r5 g1 g2 g3 g4 g5 g6 g7 hzs
    have mixed := Tryd.mixed
    go_enter Tryd.func96, Tryd.ntmps96
    go_wp2_with (at_builtin; refine Lib.wpList_append_run _ rfl _ _ _ _ rfl _ _ rfl rfl _ _ r1 ?_)
    go_ret
    exact ⟨_, rfl, hfin⟩
  · clear hown hfl r2 r3 r5 g1 g2 g3 g4 g5 g6 g7 hzs
    have hcm2 : c ≤ 9223372036854775807 := by simp only [maxLen] at hcm; omega
    have mixed := Tryd.mixed
    go_enter Tryd.func96, Tryd.ntmps96
    go_wp2_with (at_builtin; refine Lib.wpList_append_run _ rfl _ _ _ _ rfl _ _ rfl rfl _ _ r1 ?_)
    all_goals (go_ret; exact ⟨_, rfl, hfin⟩)
set_option maxHeartbeats 4000000 in
theorem rr (g n c i vb vc : Nat) (cur vcur : Array Value) (flat vs : List Value) (w : World) (hn : n ≤ 1000000) (hi : i < n) (hnc : n ≤ c) (hroom : c < n + 1) (hcs : cur.size = c * 2)
    (hg : w.heap[g]? = some (.cells cur 60 (0, 0))) (htk : cur.toList.take (n * 2) = flat) (hvb : w.heap[vb]? = some (.cells vcur 60 (0, 0))) (hvl : vs.length = 2) (hvk : vcur.toList.take 2 = vs) (hne : vb ≠ g)
    (h1 : ∀ v ∈ flat, v.oneCell' = true) (h2 : ∀ v ∈ vs, v.oneCell' = true) :
    Calls Tryd.prog 96 #[.slice (some ⟨g, 0, none⟩) n c, .int .i64 i, .slice (some ⟨vb, 0, none⟩) 1 vc] w fun e w' => ∃ v', e = .returned v' ∧ INS w (.slice (some ⟨g, 0, none⟩) n c) n i flat vs v' w' := by
  obtain ⟨d, i0, z0, g1, g2, g3, g4, g5, g6, g7⟩ := bH Tryd.td60
  have hzs : z0.cells.size = 2 := by
    have := bf (C := ⟨Tryd.prog, fun _ => False, fun _ => False, w, 0, [], fun _ => undef, w⟩) (L := []) (σ := fun _ => undef) (w := w) g4
    rw [← Array.length_toList, ← this.length]; rfl
  have hgw : g < w.heap.size := (Array.getElem?_eq_some_iff.1 hg).1
  have hvw : vb < w.heap.size := (Array.getElem?_eq_some_iff.1 hvb).1
  have hfl : flat.length = n * 2 := by rw [← htk, List.length_take, Array.length_toList]; omega
  have hfc : ∀ j v, flat[j]? = some v → cur[j]? = some v := fun j v hj => by
    rw [← htk, List.getElem?_take] at hj
    split at hj
    · simpa using hj
    · cases hj
  have hdl : (flat.drop (i * 2)).length = (n - i) * 2 := by rw [List.length_drop]; omega
  have hik : i + (n + 1 - i) = n + 1 := by omega
  have hkk : (n : Int) + 1 - (i : Int) = ((n + 1 - i : Nat) : Int) := by omega
  have g5' : i0.size = 2 := g5
  have g6' : i0.bytes = 48 := g6
  have hold : (Builtin.firstCells i0.size i (.slice (some ⟨g, 0, none⟩) i c)).run Tryd.prog w.drew = .ok (flat.take (i * 2)).toArray w.drew := by
    rw [g5']
    exact run_firstCells_some w.drew 2 i ⟨g, 0, none⟩ i c (flat.take (i * 2)) (by rw [List.length_take]; omega) (fun j v hj => by
      rw [Addr.add_lit]
      rw [List.getElem?_take] at hj
      split at hj
      · have := hfc j v hj
        simp only [World.cell?, Nat.zero_add]
        show (match w.heap[g]? with | some (.cells c _ _) => _ | _ => none) = _
        rw [hg]; exact this
      · cases hj)
  obtain ⟨G, hG⟩ : ∃ G, G = grownCap w (n + 1) c 60 := ⟨_, rfl⟩
  obtain ⟨ROW, hROW⟩ : ∃ ROW : Array Value, ROW = (flat.take (i * 2)).toArray ++ Builtin.zeroCells z0.cells (n + 1 - i) ++ Builtin.zeroCells z0.cells (G - (n + 1)) := ⟨_, rfl⟩
  have hGn : n + 1 ≤ G := by rw [hG]; exact grownCap_ge w _ _ _
  have hGm : G ≤ maxLen := by rw [hG]; exact grownCap_le_maxLen w (n + 1) c 60 (by unfold maxLen; omega)
  have hG63 : G ≤ 9223372036854775807 := by simp only [maxLen] at hGm; omega
  have hRs : ROW.size = G * 2 := by
    rw [hROW]
    simp only [Array.size_append, List.size_toArray, size_zeroCells, hzs, List.length_take, hfl]
    omega
  have hrz : ∀ ty, (Builtin.append_ #[27, 3] ty #[.slice (some ⟨g, 0, none⟩) i c, .int .i64 ((n : Int) + 1 - (i : Int))]).run Tryd.prog w = .ok (.slice (some ⟨w.heap.size, 0, none⟩) (n + 1) G) (w.drew.alloc (.cells ROW 60)) := fun ty => by
    have h := Lib.run_append_grow_zeros (P := Tryd.prog) w 27 3 ty 60 i0 z0 .i64 .i64 Tryd.underlying27 Tryd.underlying3 g2 g3 (some ⟨g, 0, none⟩) i c (flat.take (i * 2)) hold (n + 1 - i) (by omega) (by omega) (by omega) (by omega) (by rw [g6']; omega) (by rw [g6', hik]; exact growslice_fits (by omega) (by omega))
    rw [hik, ← hG, ← hROW] at h
    rw [hkk]
    exact h
  obtain ⟨r1, hr1⟩ : ∃ r1, r1 = (splice ROW.toList (i * 2) vs).toArray := ⟨_, rfl⟩
  have hl1 : r1.size = G * 2 := by rw [hr1, List.size_toArray, length_splice _ _ _ (by rw [Array.length_toList (xs := ROW)]; omega), Array.length_toList, hRs]
  have hl1' : r1.toList.length = G * 2 := by rw [Array.length_toList]; exact hl1
  have hRl : ROW.toList.length = G * 2 := by rw [Array.length_toList]; exact hRs
  obtain ⟨r2, hr2⟩ : ∃ r2, r2 = (splice r1.toList ((i + 1) * 2) (flat.drop (i * 2))).toArray := ⟨_, rfl⟩
  have hl2 : r2.size = G * 2 := by rw [hr2, List.size_toArray, length_splice _ _ _ (by omega), hl1']
  have hcp1 : ∀ (W : World), W.heap[w.heap.size]? = some (.cells ROW 60 (0, 0)) → W.heap[vb]? = some (.cells vcur 60 (0, 0)) → ∀ ty dc l1 o1, l1 = n + 1 - i → o1 = i * 2 → (Builtin.copy_ #[27, 27] ty #[.slice (some ⟨w.heap.size, o1, none⟩) l1 dc, .slice (some ⟨vb, 0, none⟩) 1 vc]).run Tryd.prog W = .ok (goInt 1) (W.setRow w.heap.size r1) := fun W hW hV ty dc l1 o1 e1 e2 => by
    subst e1 e2
    rw [hr1]
    exact fP W 27 27 ty 60 w.heap.size (i * 2) (n + 1 - i) dc ⟨vb, 0, none⟩ 1 vc ROW 60 vs 1 2 Tryd.underlying27 Tryd.sizeOf60 hW (by simp only [Nat.min_def]; split <;> omega) hvl
      (fun j v hj => by
        rw [Addr.add_lit]
        simp only [World.cell?, hV, Nat.zero_add]
        rw [← hvk, List.getElem?_take] at hj
        split at hj
        · simpa using hj
        · cases hj) (by omega) h2
  have hcp2 : ∀ (W : World), W.heap[w.heap.size]? = some (.cells r1 60 (0, 0)) → W.heap[g]? = some (.cells cur 60 (0, 0)) → ∀ ty dc sc l1 l2 o1 o2, l1 = n - i → l2 = n - i → o1 = (i + 1) * 2 → o2 = i * 2 → (Builtin.copy_ #[27, 27] ty #[.slice (some ⟨w.heap.size, o1, none⟩) l1 dc, .slice (some ⟨g, o2, none⟩) l2 sc]).run Tryd.prog W = .ok (goInt ((n - i : Nat) : Int)) (W.setRow w.heap.size r2) := fun W hW hV ty dc sc l1 l2 o1 o2 e1 e2 e3 e4 => by
    subst e1 e2 e3 e4
    rw [hr2]
    exact fP W 27 27 ty 60 w.heap.size ((i + 1) * 2) (n - i) dc ⟨g, i * 2, none⟩ (n - i) sc r1 60 (flat.drop (i * 2)) (n - i) 2 Tryd.underlying27 Tryd.sizeOf60 hW (by simp only [Nat.min_def]; split <;> omega) hdl
      (fun j v hj => by
        rw [Addr.add_lit]
        simp only [World.cell?, hV]
        rw [List.getElem?_drop] at hj
        exact hfc _ _ hj) (by omega) (fun v hv => h1 v (List.mem_of_mem_drop hv))
  have hu : List.take ((n + 1) * 2) r2.toList = flat.take (i * 2) ++ vs ++ flat.drop (i * 2) := by
    have hRt : ROW.toList.take (i * 2) = flat.take (i * 2) := by
      rw [hROW]
      simp only [Array.toList_append, List.toList_toArray]
      rw [List.take_append_of_le_length (by simp only [aj, List.length_take]; omega), List.take_append_of_le_length (by rw [List.length_take]; omega), List.take_take, Nat.min_self]
    have hfi : (flat.take (i * 2)).length = i * 2 := by rw [List.length_take]; omega
    rw [hr2, hr1]
    simp only [splice, hvl, hdl, List.toList_toArray, hRt]
    have b1 : List.take ((i + 1) * 2) (flat.take (i * 2) ++ (vs ++ ROW.toList.drop (i * 2 + 2))) = flat.take (i * 2) ++ vs := by
      rw [← List.append_assoc, List.take_append_of_le_length (by rw [aj]; omega), List.take_of_length_le (by rw [aj]; omega)]
    rw [b1, ← List.append_assoc, List.take_append_of_le_length (by simp only [aj]; omega), List.take_of_length_le (by simp only [aj]; omega)]
  obtain ⟨W1, hW1⟩ : ∃ W1, W1 = w.drew.alloc (.cells ROW 60) := ⟨_, rfl⟩
  have hN : W1.heap[w.heap.size]? = some (.cells ROW 60 (0, 0)) := by rw [hW1]; exact heap_alloc_new w.drew _
  have hO : ∀ b, b < w.heap.size → W1.heap[b]? = w.heap[b]? := fun b hb => by rw [hW1]; exact heap_alloc_old w.drew _ hb
  have hO1 : W1.os = w.os ∧ W1.tape = w.tape ∧ W1.output = w.output ∧ W1.heap.size = w.heap.size + 1 := by rw [hW1]; exact ⟨rfl, rfl, rfl, by simp [World.alloc]⟩
  rw [← hW1] at hrz
  have hE1 := fun ty dc => hcp1 W1 hN (by rw [hO vb hvw]; exact hvb) ty dc (n + 1 - i) (i * 2) rfl rfl
  have hN2 : ∀ W : World, W.heap = (W1.setRow w.heap.size r1).heap → W.heap[w.heap.size]? = some (.cells r1 60 (0, 0)) := fun W hW => by rw [hW]; exact setRow_heap W1 _ ROW r1 60 (0, 0) hN
  have hV2 : ∀ W : World, W.heap = (W1.setRow w.heap.size r1).heap → W.heap[g]? = some (.cells cur 60 (0, 0)) := fun W hW => by rw [hW, setRow_other W1 _ g r1 (by omega), hO g hgw]; exact hg
  have hfin : ∀ W : World, W.heap = (W1.setRow w.heap.size r1).heap → W.os = W1.os → W.tape = W1.tape → W.output = W1.output → INS w (.slice (some ⟨g, 0, none⟩) n c) n i flat vs (.slice (some ⟨w.heap.size, 0, none⟩) (n + 1) G) (W.setRow w.heap.size r2) := fun W hW e1 e2 e3 => by
    refine ⟨⟨?_, .inr ⟨w.heap.size, G, r2, rfl, Nat.zero_le _, setRow_heap W _ r1 r2 60 (0, 0) (hN2 W hW), hGn, hGm, hl2, hu⟩⟩, ⟨e1.trans hO1.1, e2.trans hO1.2.1, e3.trans hO1.2.2.1, ?_, fun k hk _ => ?_⟩, .inr rfl⟩
    · simp only [aj, List.length_take, hvl, hdl]; omega
    · simp [World.setRow, hW, hO1.2.2.2]
    · rw [setRow_other W _ k r2 (by omega), hW, setRow_other W1 _ k r1 (by omega), hO k hk]
  have hz2 : ¬ ((i : Int) = (n : Int)) := by omega
  have hz3 : (c : Int) < (n : Int) + 1 := by omega
  have hw1 : IntKind.i64.wrap ((i : Int) + 1) = (i : Int) + 1 := by rw [IntKind.wrap_i64]; omega
  have hb1 : (0 : Int) ≤ (i : Int) + 1 := by omega
  have hin : i ≤ n := by omega
  have htn : ((i : Int) + 1).toNat = i + 1 := by omega
  have hGi : ¬ (G = i) := by omega
  have hGim : ¬ (G = i + 1) := by omega
  have hci : ¬ (c = i) := by omega
  have hb3 : (i : Int) ≤ (n : Int) := by omega
  have hcm : c ≤ 9223372036854775807 := by omega
  clear hW1 hu hr1 hr2 hROW hG hRs hold hl1 hl1' hRl hl2 hfc hdl hik hkk g1 g2 g3 g4 g5 g6 g7 g5' g6' hzs h1 h2 htk hvk hfl hN hO hcp1 hGm
  have mixed := Tryd.mixed
  go_enter Tryd.func96, Tryd.ntmps96
  go_wp2_with (at_builtin; refine Lib.wpList_append_run _ rfl _ _ _ _ rfl _ _ rfl rfl _ _ (hrz _) ?_)
  go_wp2_with (simp only [hE1])
  go_region_law_o (refine step_copy_runI rfl _ _ 27 27 rfl (.slice (some ⟨w.heap.size, (i + 1) * 2, none⟩) (n - i) (G - (i + 1))) (.slice (some ⟨g, i * 2, none⟩) (n - i) (c - i)) (by simp [Act.eval, Act.put]) (by simp [Act.eval, Act.put]) (hcp2 (W1.setRow w.heap.size r1).drew (hN2 _ rfl) (hV2 _ rfl) _ _ _ _ _ _ _ (by omega) (by omega) (by omega) (by omega)) ?_)
  go_wp2
  go_ret
  exact ⟨_, rfl, hfin _ rfl rfl rfl rfl⟩
theorem tu (v : Value) (n i vb vc : Nat) (vcur : Array Value) (flat vs : List Value) (w : World) (hn : n ≤ 1000000) (hi : i ≤ n) (hown : w.ownsRow 0 60 2 v n flat)
    (hvb : w.heap[vb]? = some (.cells vcur 60 (0, 0))) (hvl : vs.length = 2) (hvk : vcur.toList.take 2 = vs) (hne : ∀ g, v.ownBlock = some g → vb ≠ g) (h1 : ∀ v ∈ flat, v.oneCell' = true) (h2 : ∀ v ∈ vs, v.oneCell' = true) :
    Calls Tryd.prog 96 #[v, .int .i64 i, .slice (some ⟨vb, 0, none⟩) 1 vc] w fun e w' => ∃ v', e = .returned v' ∧ INS w v n i flat vs v' w' := by
  by_cases he : i = n
  · subst he; exact sN v i vb vc vcur flat vs w hn hown hvb hvl hvk h2
  · rcases hown.2 with ⟨rfl, rfl⟩ | ⟨g, c, cur, rfl, _, hg, hnc, hcm, hcs, htk⟩
    · omega
    · have hne' := hne g rfl
      by_cases hr : n + 1 ≤ c
      · exact pc g n c i vb vc cur vcur flat vs w (by omega) hr hcm hcs hg htk hvb hvl hvk hne' h1 h2
      · exact rr g n c i vb vc cur vcur flat vs w hn (by omega) hnc (by omega) hcs hg htk hvb hvl hvk hne' h1 h2
end
section
open Go.RowKit
abbrev TRT : Ty := .pair (.list (.int .i64)) (.pair (.list (.int .i64)) .unit)
theorem kx {av : Nat → Prop} {w : World} : ∀ {t : Ty} {d : t.den} {cs : List Value}, Dat av w t d cs → ∀ v ∈ cs, v.oneCell' = true
  | .int _, _, _, h => by simp only [Dat] at h; subst h; intro v hv; rw [List.mem_singleton.1 hv]; rfl
  | .bool, _, _, h => by simp only [Dat] at h; subst h; intro v hv; rw [List.mem_singleton.1 hv]; rfl
  | .str, _, _, h => by simp only [Dat] at h; subst h; intro v hv; rw [List.mem_singleton.1 hv]; rfl
  | .list _, _, _, h => by simp only [Dat] at h; obtain ⟨A, c, rfl, _⟩ := h; intro v hv; rw [List.mem_singleton.1 hv]; rfl
  | .unit, _, _, h => by simp only [Dat] at h; subst h; intro v hv; cases hv
  | .pair a b, (x, y), cs, h => by
    simp only [Dat] at h
    obtain ⟨c1, c2, rfl, h1, h2⟩ := h
    intro v hv
    rcases List.mem_append.1 hv with q | q
    · exact kx h1 v q
    · exact kx h2 v q
theorem mc {av : Nat → Prop} {w : World} {t : Ty} {xs : List t.den} {flat : List Value} (hl : flat.length = xs.length * t.size) (h0 : 0 < t.size)
    (h : ∀ i, i < xs.length → Dat av w t (xs.getD i t.dflt) ((flat.drop (i * t.size)).take t.size)) : ∀ v ∈ flat, v.oneCell' = true := by
  intro v hv
  obtain ⟨j, hj, rfl⟩ := List.getElem_of_mem hv
  have hlt : j / t.size < xs.length := Nat.div_lt_of_lt_mul (by rw [Nat.mul_comm]; omega)
  have h1 := kx (h _ hlt) flat[j] (by
    have e : j = j / t.size * t.size + j % t.size := by rw [Nat.mul_comm]; exact (Nat.div_add_mod j t.size).symm
    have hm := Nat.mod_lt j h0
    rw [List.mem_iff_getElem?]
    refine ⟨j % t.size, ?_⟩
    rw [List.getElem?_take_of_lt hm, List.getElem?_drop, ← e, List.getElem?_eq_getElem hj])
  exact h1
theorem uw {L0 : List AO} {k j ver vj : Nat} {xs : List TRC} {x : TRC} {i : Nat} (hL : L0[k]? = some (.row TRT 60 ver xs)) (hJ : L0[j]? = some (.row TRT 60 vj [x])) (hkj : k ≠ j) (hi : i ≤ xs.length) (hn : xs.length ≤ 1000000) :
    cF Tryd.prog L0 96 [.one (.row k ver), .one (.int .i64 i), .one (.row j vj)] { av := .one (.row k (ver + 1)), upd := [(k, .row TRT 60 (ver + 1) (xs.take i ++ x :: xs.drop i))], fp := [k, j] } := by
  refine ⟨⟨Tryd.f96, Tryd.func96, by kernel_rfl, by kernel_rfl⟩, fun C L σ w vs hP hinv ha hfp hlen => ?_⟩
  match vs, ha with
  | [v1, v2, v3], ⟨h1, h2, h3, _⟩ =>
  have hob : L[k]? = some (.row TRT 60 ver xs) := by rw [hfp k (by simp)]; exact hL
  have hobj : L[j]? = some (.row TRT 60 vj [x]) := by rw [hfp j (by simp)]; exact hJ
  obtain ⟨ob, q1, q2, q3⟩ := h1.2
  rw [hob] at q1; cases q1
  obtain ⟨_, e1⟩ := q3 rfl rfl
  obtain ⟨ob2, p1, p2, p3⟩ := h3.2
  rw [hobj] at p1; cases p1
  obtain ⟨_, e3⟩ := p3 rfl rfl
  have e2 : v2 = .int .i64 i := h2.2
  subst e1 e2 e3
  obtain ⟨flat, f1, f2, f3⟩ := hinv.ob k _ hob
  obtain ⟨flatj, j1, j2, j3⟩ := hinv.ob j _ hobj
  rcases j1.2 with ⟨_, z⟩ | ⟨gj, cj, curj, ej, _, hgj, hnj, hcj, hsj, htj⟩
  · simp at z
  have hone := mc f1.1 f2 f3
  have honej := mc j1.1 j2 j3
  have hsz : TRT.size = 2 := rfl
  have hj3 := j3 0 (by simp)
  have hfj : flatj.length = 2 := by have := j1.1; rw [hsz] at this; simpa using this
  have hblk : blk (σ k) = (σ k).ownBlock := cR (bG f1)
  have hblkj : blk (σ j) = some gj := by rw [ej]; rfl
  have hne : ∀ g, (σ k).ownBlock = some g → gj ≠ g := fun g hg hgg => by
    subst hgg
    exact hkj (hinv.inj k j gj ⟨_, hob, rfl, by rw [hblk]; exact hg⟩ ⟨_, hobj, rfl, hblkj⟩)
  have hvj : σ j = .slice (some ⟨gj, 0, none⟩) 1 cj := ej
  rw [hvj]
  have hc := tu (σ k) xs.length i gj cj curj flat flatj w hn hi f1 hgj hfj (by rw [hsz] at htj; simpa using htj) hne hone honej
  refine hc.mono fun en w' hh => ?_
  obtain ⟨v', e4, r2, r3, r5⟩ := hh
  refine ⟨v', e4, ?_⟩
  have hblk' : blk v' = v'.ownBlock := cR (bG r2)
  have hll : (xs.take i ++ x :: xs.drop i).length = xs.length + 1 := by simp; omega
  refine bq (σ' := sup σ k v') hinv hob r3.size r3.os r3.tape r3.output
    (fun b hb hno => r3.block b hb (fun eb => hno ⟨_, hob, rfl, by rw [hblk]; exact eb.symm⟩)) (fun b hb => c0 σ v' hb) ⟨Nat.le_succ _, fun _ h => by simp [AO.ver] at h⟩
    (fun _ b hb => ?_) (fun hp hav => ?_) (fun hI _ => ?_)
  · rw [aJ, hblk'] at hb
    rcases r5 with r5 | r5
    · exact .inl ⟨_, hob, rfl, by rw [hblk, ← r5]; exact hb⟩
    · rw [r5] at hb
      simp only [Option.some.injEq] at hb
      exact .inr (by omega)
  · have hkeep : ∀ {t' : Ty} {d : t'.den} {cs : List Value}, Dat (avd C L σ) w t' d cs → Dat (avd C (L.set k (.row TRT 60 (ver + 1) (xs.take i ++ x :: xs.drop i))) (sup σ k v')) w' t' d cs := fun hd =>
      hd.keep r3.size (fun b hb ha => r3.block b hb (fun ej => ha (.inr ⟨k, _, hob, rfl, by rw [hblk]; exact ej.symm⟩))) hav
    refine ⟨flat.take (i * 2) ++ flatj ++ flat.drop (i * 2), by rw [aJ, hll]; exact r2, f2, fun q hq => ?_⟩
    rw [hll] at hq
    have hfl : flat.length = xs.length * 2 := f1.1
    have hft : (flat.take (i * 2)).length = i * 2 := by rw [List.length_take]; omega
    rw [hsz]
    by_cases q1 : q < i
    · have e1 : (xs.take i ++ x :: xs.drop i).getD q TRT.dflt = xs.getD q TRT.dflt := by
        simp only [List.getD]
        rw [List.getElem?_append_left (by rw [List.length_take]; omega), List.getElem?_take_of_lt q1]
      have e2 : ((flat.take (i * 2) ++ flatj ++ flat.drop (i * 2)).drop (q * 2)).take 2 = (flat.drop (q * 2)).take 2 := by
        rw [List.append_assoc, List.drop_append_of_le_length (by omega), List.take_append_of_le_length (by rw [List.length_drop]; omega), List.drop_take, List.take_take]
        congr 1; omega
      rw [e1, e2]
      exact hkeep (f3 q (by omega))
    · by_cases q2 : q = i
      · subst q2
        have e1 : (xs.take q ++ x :: xs.drop q).getD q TRT.dflt = x := by
          simp only [List.getD]
          rw [List.getElem?_append_right (by rw [List.length_take]; omega), List.length_take, show q - min q xs.length = 0 by omega]
          rfl
        have e2 : ((flat.take (q * 2) ++ flatj ++ flat.drop (q * 2)).drop (q * 2)).take 2 = flatj := by
          rw [List.append_assoc, List.drop_append, List.drop_of_length_le (by omega), aY, hft, Nat.sub_self, List.drop_zero, List.take_append_of_le_length (by omega), List.take_of_length_le (by omega)]
        rw [e1, e2]
        have e3 : (flatj.drop (0 * TRT.size)).take TRT.size = flatj := by rw [Nat.zero_mul, List.drop_zero, hsz, List.take_of_length_le (by omega)]
        rw [e3] at hj3
        exact hkeep hj3
      · have e1 : (xs.take i ++ x :: xs.drop i).getD q TRT.dflt = xs.getD (q - 1) TRT.dflt := by
          simp only [List.getD]
          rw [List.getElem?_append_right (by rw [List.length_take]; omega), List.length_take, show q - min i xs.length = (q - 1 - i) + 1 by omega, List.getElem?_cons_succ, List.getElem?_drop, show i + (q - 1 - i) = q - 1 by omega]
        have e2 : ((flat.take (i * 2) ++ flatj ++ flat.drop (i * 2)).drop (q * 2)).take 2 = (flat.drop ((q - 1) * 2)).take 2 := by
          rw [List.drop_append, List.drop_of_length_le (by rw [aj]; omega), aY, aj, hft, hfj, List.drop_drop]
          congr 2; omega
        rw [e1, e2]
        exact hkeep (f3 (q - 1) (by omega))
  · have hlt : k < L.length := (List.getElem?_eq_some_iff.1 hob).1
    refine ⟨?_, .row TRT 60 (ver + 1) (xs.take i ++ x :: xs.drop i), by simp [hlt], Nat.le_refl _, fun _ _ => ⟨⟨_, _, _, rfl⟩, (aJ _ _ _).symm⟩⟩
    rcases r2.2 with ⟨rfl, _⟩ | ⟨g, cap, cur, rfl, _⟩ <;> rfl
end
/- packTy; ins17 -/
section
open Go.RowKit
theorem rk {P : Program} {T : TypeId} {td : TD} (h : aG P T = some td) (hz : td.zero = [.nils, .nils]) : ∃ z, (∀ w, (zeroValue T).run P w = .ok z w) ∧ z.cells = #[.slice none 0 0, .slice none 0 0] := by
  obtain ⟨d, i, z, h1, h2, h3, h4, h5, h6, h7⟩ := bH h
  refine ⟨z, fun w => by simp [zeroValue, typeInfo, h2, h3], ?_⟩
  have hr := bf (C := ⟨P, fun _ => False, fun _ => False, default, 0, [], fun _ => undef, default⟩) (L := []) (σ := fun _ => undef) (w := default) h4
  rw [hz] at hr
  apply Array.ext'
  match hq : z.cells.toList, hr with
  | [a, b], hr =>
    obtain ⟨⟨_, ha⟩, ⟨_, hb⟩, _⟩ := hr
    rw [show a = .slice none 0 0 from ha, show b = .slice none 0 0 from hb]
theorem ri (m : Nat) : (Builtin.zeroCells #[Value.slice none 0 0, Value.slice none 0 0] m).toList = List.replicate (m * 2) (.slice none 0 0) := by
  have h0 : (Builtin.zeroCells #[Value.slice none 0 0, Value.slice none 0 0] m).toList = (List.range (m * 2)).map (fun i => #[Value.slice none 0 0, Value.slice none 0 0][i % 2]!) := by
    simp [Builtin.zeroCells]
  rw [h0]
  refine List.ext_getElem (by simp) fun i h1 h2 => ?_
  rw [List.getElem_map, List.getElem_range, List.getElem_replicate]
  rcases Nat.mod_two_eq_zero_or_one i with e | e <;> rw [e] <;> rfl
theorem uC {w : World} {v : Value} {n i : Nat} {flat : List Value} (hown : w.ownsRow 0 60 2 v n flat) (hi : i ≤ n) :
    ∃ v2 w', (Instr.sliceAt 27 v (some (.int .i64 i)) none none).run Tryd.prog w = .ok v2 w ∧ (∀ ty, (Builtin.clear_ #[27] ty #[v2]).run Tryd.prog w = .ok (.tuple #[]) w') ∧
      w'.ownsRow 0 60 2 v n (flat.take (i * 2) ++ List.replicate ((n - i) * 2) (.slice none 0 0)) ∧ w.grownBy w' v.ownBlock := by
  obtain ⟨d, hd, hkd, hu⟩ := b6 Tryd.td27 w
  have := bh hkd; subst this
  have hfl := hown.1
  rcases hown.2 with ⟨e2, e3⟩ | ⟨g, cap, cur, e2, g1, g2, g3, g4, g5, g6⟩
  · subst e2 e3
    have hi0 : i = 0 := by omega
    subst hi0
    have hx : flat = [] := List.eq_nil_of_length_eq_zero (by simpa using hfl)
    subst hx
    refine ⟨.slice none 0 0, w, ?_, fun ty => ?_, hown, World.grownBy.refl w _⟩
    · have hb := cH (P := Tryd.prog) (w := w) (isSlice := true) (len := 0) (cap := 0) (lo := some (.int .i64 ((0 : Nat) : Int))) (hi := none) (l := 0) (h := 0) (Int.le_refl 0) (Int.le_refl 0) (by omega) (Nat.le_refl _) (.inr ⟨_, rfl⟩) (.inl ⟨rfl, rfl⟩)
      simp only [Instr.sliceAt, Sem.run_bind, hd, Result.andThen_ok, Instr.slice, hb, ba Tryd.td60 w, Sem.run_pure]
      simp
    · simp [Builtin.clear_, run_underlying Tryd.underlying27]
  · subst e2
    have hb := cH (P := Tryd.prog) (w := w) (isSlice := true) (len := n) (cap := cap) (lo := some (.int .i64 (i : Int))) (hi := none) (l := i) (h := n) (by omega) (by omega) (Int.le_refl _) g3 (.inr ⟨_, rfl⟩) (.inl ⟨rfl, rfl⟩)
    obtain ⟨z, hz1, hz2⟩ := rk Tryd.td60 rfl
    by_cases hin : i = n
    · subst hin
      refine ⟨if cap - i = 0 then .slice (some ⟨g, 0, none⟩) 0 0 else .slice (some ⟨g, i * 2, none⟩) 0 (cap - i), w, ?_, fun ty => ?_, by simpa [← hfl] using hown, World.grownBy.refl w _⟩
      · simp only [Instr.sliceAt, Sem.run_bind, hd, Result.andThen_ok, Instr.slice, hb, ba Tryd.td60 w, Sem.run_pure]
        by_cases hc : cap = i
        · simp [hc]
        · have : ¬ cap - i = 0 := by omega
          simp [hc, this, add_lit]
      · split <;> simp [Builtin.clear_, run_underlying Tryd.underlying27]
    · have hst := run_storeCells_at Tryd.prog g (i * 2) 60 (List.replicate ((n - i) * 2) (.slice none 0 0)) 0 cur w g2 (by simp; omega) (by intro u hu'; rw [List.eq_of_mem_replicate hu']; rfl)
      simp only [Nat.add_zero, bo] at hst
      refine ⟨.slice (some ⟨g, i * 2, none⟩) (n - i) (cap - i), w.setRow g (cur.toList.take (i * 2) ++ List.replicate ((n - i) * 2) (Value.slice none 0 0) ++ cur.toList.drop (i * 2 + (n - i) * 2)).toArray, ?_, fun ty => ?_, ?_, ?_⟩
      · simp only [Instr.sliceAt, Sem.run_bind, hd, Result.andThen_ok, Instr.slice, hb, ba Tryd.td60 w, Sem.run_pure]
        have hc : ¬ cap = i := by omega
        simp [hc, add_lit]
        try omega
      · obtain ⟨m, hm⟩ : ∃ m, n - i = m + 1 := ⟨n - i - 1, by omega⟩
        rw [hm] at hst ⊢
        simp [Builtin.clear_, run_underlying Tryd.underlying27, hz1, hz2, ri, hst]
      · have hcl : cur.toList.length = cap * 2 := by rw [Array.length_toList]; exact g5
        refine ⟨by simp; omega, .inr ⟨g, cap, _, rfl, g1, setRow_heap w g cur _ 60 _ g2, g3, g4, by simp; omega, ?_⟩⟩
        rw [← g6, List.take_take, Nat.min_eq_left (by omega), List.toList_toArray, List.take_append_of_le_length (by simp; omega), List.take_of_length_le (by simp; omega)]
      · exact ⟨rfl, rfl, rfl, by simp [World.setRow], fun k _ hk => setRow_other w g k _ (fun e => hk (by rw [e]; rfl))⟩
theorem tt {a : Act} {d t : Nat} (v : Value) (h : d ≠ t) : (a.put (some d) v).tmps.getD t undef = a.tmps.getD t undef := by
  simp only [Act.put, Array.getD_eq_getD_getElem?, Array.getElem?_setIfInBounds_ne h]
theorem gg {a : Act} {d t : Nat} (v : Value) (h : d ≠ t) : (a.put (some d) v).eval (.tmp t) = a.eval (.tmp t) := by
  have := tt (a := a) (d := d) (t := t) v h
  exact this
theorem lK {a : Act} {d : Nat} (v : Value) (h : d < a.tmps.size) : (a.put (some d) v).eval (.tmp d) = v := by
  simp [Act.eval, Act.put, Array.getD, h]
theorem tn {C : Ctx} {Q : Exit → St → Prop} {s : St} {id N : Nat} {x0 x1 : Nat} {d0 d1 d2 : Nat} {o0 o1 o2 o3 : Oper} {k ver i : Nat} {zs : List TRC} (hP : C.P = Tryd.prog) (hN : C.N = N)
    (hg0 : o0.guard = none) (hg1 : o1.guard = none) (hg2 : o2.guard = none) (hg3 : o3.guard = none)
    (h0 : o0.op = .move (.tmp x0)) (h0d : o0.dst = some d0) (h1 : o1.op = .move (.tmp x1)) (h1d : o1.dst = some d1)
    (h2 : o2.op = .slice 27 (.tmp d0) (some (.tmp d1)) none none) (h2d : o2.dst = some d2) (h3 : o3.op = .call { callee := .builtin .clear, args := #[.tmp d2], argTypes := #[27] }) (h3d : o3.dst = none)
    (hn : (d0 < N ∧ d1 < N ∧ d2 < N) ∧ d0 ≠ x1 ∧ d0 ≠ d1 ∧ d1 ≠ d2 ∧ d0 ≠ d2)
    (e0 : ev s.env (.tmp x0) = .one (.row k ver)) (e1 : ev s.env (.tmp x1) = .one (.int .i64 i)) (hL : s.L[k]? = some (.row TRT 60 ver zs)) (hi : i ≤ zs.length)
    (u0 : lkp s.env d0 = .undef ∧ lkp s.env d1 = .undef ∧ lkp s.env d2 = .undef)
    (h : Q .normal { env := s.env, L := s.L.set k (.row TRT 60 ver (zs.take i ++ List.replicate (zs.length - i) ([], ([], ())))) }) : AWP C (.region id [o0, o1, o2, o3].toArray false) Q s := by
  intro σ a w hr
  obtain ⟨⟨n0, n1, n2⟩, n3, n4, n5, n6⟩ := hn
  have hv := hr.ev (.tmp x0)
  rw [e0] at hv
  obtain ⟨ob, q2, q3, q4⟩ := hv.2
  rw [hL] at q2; cases q2
  obtain ⟨_, ev0⟩ := q4 rfl rfl
  have ev1 : a.eval (.tmp x1) = .int .i64 i := by have := hr.ev (.tmp x1); rw [e1] at this; exact this.2
  obtain ⟨flat, f1, f2, f3⟩ := hr.inv.ob k _ hL
  obtain ⟨v2, w', r1, r2, r3, r4⟩ := uC f1 hi
  have hsz : a.tmps.size = N := hr.size.trans hN
  refine wp_region_lit ?_
  refine wpList_plain hg0 fun K0 k0 => dn (Post := fun v w1 => v = σ k ∧ w1 = w) (by simp only [h0, execOp, Sem.run_pure, aX]; exact ⟨ev0, trivial⟩) fun v w1 hh => k0 _ _ ?_
  obtain ⟨rfl, rfl⟩ := hh
  rw [h0d]
  refine wpList_plain hg1 fun K1 k1 => dn (Post := fun v w2 => v = .int .i64 i ∧ w2 = w1) (by simp only [h1, execOp, Sem.run_pure, aX]; exact ⟨by rw [gg _ n3]; exact ev1, trivial⟩) fun v w2 hh => k1 _ _ ?_
  obtain ⟨rfl, rfl⟩ := hh
  rw [h1d]
  have s1 : (a.put (some d0) (σ k)).tmps.size = N := by simp [Act.put, hsz]
  have s2 : ((a.put (some d0) (σ k)).put (some d1) (.int .i64 i)).tmps.size = N := by simp [Act.put, hsz]
  refine wpList_plain hg2 fun K2 k2 => dn (Post := fun v w3 => v = v2 ∧ w3 = w2) ?_ fun v w3 hh => k2 _ _ ?_
  · have g0 : ((a.put (some d0) (σ k)).put (some d1) (.int .i64 i)).eval (.tmp d0) = σ k := by rw [gg _ (Ne.symm n4), lK _ (by omega)]
    have g1 : ((a.put (some d0) (σ k)).put (some d1) (.int .i64 i)).eval (.tmp d1) = .int .i64 i := lK _ (by omega)
    simp only [h2, execOp, Option.map_some, Option.map_none, g0, g1, hP, Sem.run_bind, r1, Result.andThen_ok, Sem.run_pure, aX]
    exact ⟨trivial, trivial⟩
  obtain ⟨rfl, rfl⟩ := hh
  rw [h2d]
  have hr4 : blk (σ k) = (σ k).ownBlock := cR (bG f1)
  have hlt : k < s.L.length := (List.getElem?_eq_some_iff.1 hL).1
  have hll : (zs.take i ++ List.replicate (zs.length - i) (([], ([], ())) : TRC)).length = zs.length := by simp; omega
  have hdone : fS C s.L σ w3 { av := .tup [], upd := [(k, .row TRT 60 ver (zs.take i ++ List.replicate (zs.length - i) ([], ([], ()))))], fp := [k] } (.tuple #[]) w' := by
    refine bq (σ' := σ) hr.inv hL r4.size r4.os r4.tape r4.output
      (fun b hb hno => r4.block b hb (fun eb => hno ⟨_, hL, rfl, by rw [hr4]; exact eb.symm⟩)) (fun _ _ => rfl) ⟨Nat.le_refl _, fun _ _ => ⟨rfl, rfl, rfl, _, rfl⟩⟩
      (fun _ b hb => .inl ⟨_, hL, rfl, hb⟩) (fun hp hav => ?_) (fun _ _ => ⟨[], rfl, trivial⟩)
    have hkeep : ∀ {t' : Ty} {d : t'.den} {cs : List Value}, Dat (avd C s.L σ) w3 t' d cs → Dat (avd C (s.L.set k (.row TRT 60 ver (zs.take i ++ List.replicate (zs.length - i) ([], ([], ()))))) σ) w' t' d cs := fun hd =>
      hd.keep r4.size (fun b hb ha => r4.block b hb (fun ej => ha (.inr ⟨k, _, hL, rfl, by rw [hr4]; exact ej.symm⟩))) hav
    refine ⟨_, by rw [hll]; exact r3, f2, fun q hq => ?_⟩
    rw [hll] at hq
    have hfl : flat.length = zs.length * 2 := f1.1
    have hsz2 : TRT.size = 2 := rfl
    rw [hsz2]
    by_cases q1 : q < i
    · have e1 : (zs.take i ++ List.replicate (zs.length - i) (([], ([], ())) : TRC)).getD q TRT.dflt = zs.getD q TRT.dflt := by
        simp only [List.getD]
        rw [List.getElem?_append_left (by rw [List.length_take]; omega), List.getElem?_take_of_lt q1]
      have e2 : ((flat.take (i * 2) ++ List.replicate ((zs.length - i) * 2) (Value.slice none 0 0)).drop (q * 2)).take 2 = (flat.drop (q * 2)).take 2 := by
        rw [List.drop_append_of_le_length (by rw [List.length_take]; omega), List.take_append_of_le_length (by rw [List.length_drop, List.length_take]; omega), List.drop_take, List.take_take, show min 2 (i * 2 - q * 2) = 2 by omega]
      rw [e1, e2]
      exact hkeep (f3 q (by omega))
    · have e1 : (zs.take i ++ List.replicate (zs.length - i) (([], ([], ())) : TRC)).getD q TRT.dflt = ([], ([], ())) := by
        simp only [List.getD]
        rw [List.getElem?_append_right (by rw [List.length_take]; omega), List.length_take, List.getElem?_replicate, if_pos (by omega)]
        rfl
      have e2 : ((flat.take (i * 2) ++ List.replicate ((zs.length - i) * 2) (Value.slice none 0 0)).drop (q * 2)).take 2 = [.slice none 0 0, .slice none 0 0] := by
        rw [List.drop_append, List.drop_of_length_le (by rw [List.length_take]; omega), aY, List.length_take, List.drop_replicate, List.take_replicate, show min 2 ((zs.length - i) * 2 - (q * 2 - min (i * 2) flat.length)) = 2 by omega, List.replicate_succ, List.replicate_succ, List.replicate_zero]
      rw [e1, e2]
      show Dat _ _ TRT (([], ([], ())) : TRC) _
      exact ⟨[.slice none 0 0], [.slice none 0 0], rfl, dd _, ⟨[.slice none 0 0], [], rfl, dd _, rfl⟩⟩
  obtain ⟨σ', hI, _, hPr⟩ := hdone
  have happ : app s.L { av := AV.tup [], upd := [(k, .row TRT 60 ver (zs.take i ++ List.replicate (zs.length - i) ([], ([], ()))))], fp := [k] } = s.L.set k (.row TRT 60 ver (zs.take i ++ List.replicate (zs.length - i) ([], ([], ())))) := by simp [app, bn]
  rw [happ] at hI hPr
  have s3 : (((a.put (some d0) (σ k)).put (some d1) (.int .i64 i)).put (some d2) v).tmps.size = N := by simp [Act.put, hsz]
  refine wpList_plain hg3 fun K3 k3 => dn (Post := fun v w4 => w4 = w') ?_ fun v3 w4 hh => k3 _ _ ?_
  · have g2 : (((a.put (some d0) (σ k)).put (some d1) (.int .i64 i)).put (some d2) v).eval (.tmp d2) = v := lK _ (by omega)
    simp only [h3, execOp, resolve, invoke, builtin, g2, hP, Sem.run_bind, Sem.run_pure, Result.andThen_ok, List.map_toArray, aP, bb, r2, aX]
  subst hh
  rw [h3d]
  refine wpList_nil ?_
  refine ⟨_, σ', h, hI, fun t => ?_, ?_, ?_, hr.pres.trans hPr⟩
  · show RV C (s.L.set k _) σ' w4 (lkp s.env t) _
    by_cases t0 : t = d0
    · subst t0; rw [u0.1]; trivial
    by_cases t1 : t = d1
    · subst t1; rw [u0.2.1]; trivial
    by_cases t2 : t = d2
    · subst t2; rw [u0.2.2]; trivial
    have : ((((a.put (some d0) (σ k)).put (some d1) (.int .i64 i)).put (some d2) v).put none v3).tmps.getD t undef = a.tmps.getD t undef := by
      have p1 := gg (a := (a.put (some d0) (σ k)).put (some d1) (.int .i64 i)) v (Ne.symm t2)
      have p2 := gg (a := a.put (some d0) (σ k)) (.int .i64 i) (Ne.symm t1)
      have p3 := gg (a := a) (σ k) (Ne.symm t0)
      exact p1.trans (p2.trans p3)
    rw [this]
    exact hPr.rv (hr.env t)
  · show (((a.put (some d0) (σ k)).put (some d1) (.int .i64 i)).put (some d2) v).tmps.size = C.N
    rw [s3, hN]
  · exact hr.defers
theorem pJ {C : Ctx} {L0 : List AO} {o : Oper} {opn : Operand → AV} {x y z : Operand} {ats : Array TypeId} {k : IntKind} {a b c : Int} (ho : o.op = .call { callee := .builtin .min, args := #[x, y, z], argTypes := ats }) (hx' : opn x = .one (.int k a)) (hy' : opn y = .one (.int k b)) (hz' : opn z = .one (.int k c)) : aW C L0 o opn { av := .one (.int k (min (min a b) c)) } := by
  intro L σ w ρ hi hx hfp hlen
  have hx1 := hx x (by simp [ho, Op.operands, Call.operands])
  have hx2 := hx y (by simp [ho, Op.operands, Call.operands])
  have hx3 := hx z (by simp [ho, Op.operands, Call.operands])
  rw [hx'] at hx1
  rw [hy'] at hx2
  rw [hz'] at hx3
  have e1 : ρ x = .int k a := hx1.2
  have e2 : ρ y = .int k b := hx2.2
  have e3 : ρ z = .int k c := hx3.2
  have hrun : (Builtin.min_ ats o.type #[.int k a, .int k b, .int k c]).run C.P w = .ok (.int k (min (min a b) c)) w := by
    simp [Builtin.min_, Builtin.min2, pX]
  simp only [ho, execOp, resolve, invoke, builtin, List.map_toArray, aP, bb, e1, e2, e3, Sem.run_bind, Sem.run_pure, Result.andThen_ok, hrun, aX]
  exact aI hi ⟨rfl, rfl⟩
end
theorem oX (v w : List Int) (hv : v.length ≤ 1000000) (hw : w.length ≤ 1000000) : aV Tryd.prog 102 [.one (.list (.int .i64) v), .one (.list (.int .i64) w)] (.one (.int .i64 (cmn v w : Int))) := by
 obtain ⟨n, hn⟩ : ∃ n, n = min v.length w.length := ⟨_, rfl⟩
 have hnm : min (v.length : Int) (w.length : Int) = (n : Int) := by omega
 refine aw Tryd.func102 rfl (by kernel_rfl) (Nat.le_of_ble_eq_true rfl) rfl fun C hP hN hB => ?_
 replace hN : C.N = 30 := hN
 simp only [aH, D]
 refine V fun _ k1 => ?_
 refine a9 hP hN rfl ?_
 (refine Z rfl fun _ k0 => ?_; simp only [zO, zT, acs, reduceCtorEq, J, D, M, U, O, S, af]; (repeat refine an ?_); (try refine .inl ?_); apply k0; clear k0; simp only [zP, D])
 refine aa ?_
 apply k1; clear k1; refine kp [0, 1, 4] ?_
 refine V fun _ k2 => ?_
 refine V fun _ k3 => ?_
 refine a9 hP hN rfl ?_
 iterate 6 (refine Z rfl fun _ k0 => ?_; simp only [zO, zT, acs, reduceCtorEq, J, D, M, U, O, S, af]; (repeat refine an ?_); (try refine .inl ?_); apply k0; clear k0; simp only [zP, D])
 refine aa ?_
 apply k3; clear k3; refine kp [0, 1, 4, 10, 11] ?_
 refine au ?_
 refine aU (fun n4 s4 => ∃ (k : Nat), (k ≤ n) ∧ (∀ j, j < k → v.getD j 0 = w.getD j 0) ∧ n4 = n - k ∧ s4 = { env := [(0, .one (.list (.int .i64) v)), (1, .one (.list (.int .i64) w)), (4, .one (.int .i64 0)), (10, .one (.int .i64 (n : Int))), (11, .one (.int .i64 (k : Int)))], L := [] }) ?_ ?_
 ·refine ⟨_, _, ak [0, 1, 4, 10, 11], 0, Nat.zero_le _, fun j h => by omega, rfl, ?_⟩
  rw [← hnm]; rfl
 rintro n4 s4 ⟨k, hk, hj, rfl, rfl⟩
 refine V fun _ k5 => ?_
 refine a9 hP hN rfl ?_
 (refine Z rfl fun _ k0 => ?_; simp only [zO, zT, acs, reduceCtorEq, J, D, M, U, O, S, af]; (repeat refine an ?_); (try refine .inl ?_); apply k0; clear k0; simp only [zP, D])
 refine aa ?_
 apply k5; clear k5; refine kp [0, 1, 4, 10, 11, 12] ?_
 refine V fun _ k6 => ?_
 refine cd (fun hc7 => ?_) (fun hc7 => ?_)
 ·(try simp only [zB, reduceCtorEq] at hc7)
  refine ag ?_
  apply k6; clear k6; refine kp [0, 1, 4, 10, 11, 12] ?_
  refine V fun _ k8 => ?_
  refine au ?_
  refine V fun _ k9 => ?_
  have hkv : k < v.length := by omega
  have hkw : k < w.length := by omega
  refine a9 hP hN rfl ?_
  iterate 2 (refine Z rfl fun _ k0 => ?_; simp only [zO, zT, acs, reduceCtorEq, J, D, M, U, O, S, af]; (repeat refine an ?_); (try refine .inl ?_); apply k0; clear k0; simp only [zP, D])
  refine aa ?_
  apply k9; clear k9; refine kp [0, 1, 4, 5, 10, 11, 12] ?_
  refine V fun _ k10 => ?_
  refine bS hP hN Tryd.mixed rfl ?_
  iterate 9 (refine Z rfl fun _ k0 => ?_; simp only [zO, zT, acs, reduceCtorEq, J, D, M, U, O, S, af]; (repeat refine an ?_); (try refine .inl ?_); apply k0; clear k0; simp only [zP, D])
  refine aa ?_
  refine ⟨by kernel_rfl, ?_⟩
  apply k10; clear k10; refine kp [0, 1, 4, 5, 10, 11, 12, 22] ?_
  refine cd (fun hc11 => ?_) (fun hc11 => ?_)
  ·(try simp only [zB, reduceCtorEq] at hc11)
   have hne : ¬ v.getD k 0 = w.getD k 0 := hc11
   refine V fun _ k12 => ?_
   refine a9 hP hN rfl ?_
   iterate 2 (refine Z rfl fun _ k0 => ?_; simp only [zO, zT, acs, reduceCtorEq, J, D, M, U, O, S, af]; (repeat refine an ?_); (try refine .inl ?_); apply k0; clear k0; simp only [zP, D])
   refine aa ?_
   apply k12; clear k12; refine kp [0, 1, 4, 5, 10, 11, 12, 22] ?_
   refine ah ?_
   refine ⟨nr, _, rfl, ?_⟩; simp only [zF, zP, J, D, af]
   refine VLE.of_eq ?_
   refine congrArg (fun n => AV.one (AC.int IntKind.i64 n)) ?_
   symm
   first
   | exact congrArg Int.ofNat (eo hj (by omega) (by omega) fun h9 => hne h9.2.2)
   | (rw [hnm, ← hkn]; exact congrArg Int.ofNat (eo hj (by omega) (by omega) (by omega)))
  (try simp only [zB, reduceCtorEq] at hc11)
  have heq : v.getD k 0 = w.getD k 0 := by simpa using hc11
  refine ag ?_
  apply k8; clear k8; refine kp [0, 1, 4, 5, 10, 11, 12, 22] ?_
  refine a9 hP hN rfl ?_
  iterate 2 (refine Z rfl fun _ k0 => ?_; simp only [zO, zT, acs, reduceCtorEq, J, D, M, U, O, S, af]; (repeat refine an ?_); (try refine .inl ?_); apply k0; clear k0; simp only [zP, D])
  refine aa ?_
  refine ⟨_, _, ?_, ak [0, 1, 4, 10, 11], k + 1, by omega, fun j h => ?_, rfl, rfl⟩
  · omega
  · by_cases e : j = k
    · rw [e]; exact heq
    · exact hj j (by omega)
 (try simp only [zB, reduceCtorEq] at hc7)
 refine aR ?_
 apply k2; clear k2; refine kp [0, 1, 4, 10, 11, 12] ?_
 refine V fun _ k13 => ?_
 have hkn : k = n := by omega
 refine a9 hP hN rfl ?_
 iterate 6 (refine Z rfl fun _ k0 => ?_; simp only [zO, zT, acs, reduceCtorEq, J, D, M, U, O, S, af]; (repeat refine an ?_); (try refine .inl ?_); apply k0; clear k0; simp only [zP, D])
 refine aa ?_
 apply k13; clear k13; refine kp [0, 1, 4, 10, 11, 12] ?_
 refine ah ?_
 refine ⟨nr, _, rfl, ?_⟩; simp only [zF, zP, J, D, af]
 refine VLE.of_eq ?_
 refine congrArg (fun n => AV.one (AC.int IntKind.i64 n)) ?_
 symm
 first
 | exact congrArg Int.ofNat (eo hj (by omega) (by omega) fun h9 => hne h9.2.2)
 | (rw [hnm, ← hkn]; exact congrArg Int.ofNat (eo hj (by omega) (by omega) (by omega)))
theorem pu (v w : List Int) (hv : v.length ≤ 1000000) (hw : w.length ≤ 1000000) : aV Tryd.prog 91 [.one (.list (.int .i64) v), .one (.list (.int .i64) w)] (.one (.bool (pfB v w))) := by
 refine aw Tryd.func91 rfl (by kernel_rfl) (Nat.le_of_ble_eq_true rfl) rfl fun C hP hN hB => ?_
 replace hN : C.N = 11 := hN
 simp only [aH, D]
 refine V fun _ k1 => ?_
 refine a9 hP hN rfl ?_
 (refine Z rfl fun _ k0 => ?_; simp only [zO, zT, acs, reduceCtorEq, J, D, M, U, O, S]; (repeat refine an ?_); (try refine .inl ?_); apply k0; clear k0; simp only [zP, D])
 refine aa ?_
 apply k1; clear k1; refine kp [0, 1, 4] ?_
 refine V fun _ k2 => ?_
 refine a9 hP hN rfl ?_
 iterate 2 (refine Z rfl fun _ k0 => ?_; simp only [zO, zT, acs, reduceCtorEq, J, D, M, U, O, S]; (repeat refine an ?_); (try refine .inl ?_); apply k0; clear k0; simp only [zP, D])
 refine Z rfl fun _ k0 => ?_
 refine ar (h := ae (oX v w hv hw)) rfl rfl (by first | exact rfl | (simp only [ev, zP, J, D]; exact rfl)) (by simp only [zV, acs, reduceCtorEq, J, D, M, U, O, S]) ?_
 apply k0; clear k0; simp only [zP, D]
 iterate 4 (refine Z rfl fun _ k0 => ?_; simp only [zO, zT, acs, reduceCtorEq, J, D, M, U, O, S]; (repeat refine an ?_); (try refine .inl ?_); apply k0; clear k0; simp only [zP, D])
 refine aa ?_
 apply k2; clear k2; refine kp [0, 1, 4] ?_
 refine ah ?_
 refine ⟨nr, _, rfl, ?_⟩; simp only [zF, zP, J, D]
 refine VLE.of_eq ?_
 rfl
theorem qt (a1 a2 : List Int) (u : TRC) (h1 : a1.length ≤ 100000) (h2 : u.1.length ≤ 100000) : aV Tryd.prog 93 [.agg [.list (.int .i64) u.1, .list (.int .i64) u.2.1], .one (.pat (.pair (.list (.int .i64)) (.pair (.list (.int .i64)) .unit)) (a1, (a2, ())) 0)] (.one (.bool (pfB a1 u.1))) := by
 refine aw Tryd.func93 rfl (by kernel_rfl) (Nat.le_of_ble_eq_true rfl) rfl fun C hP hN hB => ?_
 replace hN : C.N = 9 := hN
 simp only [aH, D]
 refine V fun _ k1 => ?_
 refine a9 hP hN rfl ?_
 iterate 2 (refine Z rfl fun _ k0 => ?_; simp only [zO, zT, acs, reduceCtorEq, J, D, M, U, O, S]; (repeat refine an ?_); (try refine .inl ?_); apply k0; clear k0; simp only [zP, D])
 refine aa ?_
 apply k1; clear k1; refine kp [0, 1, 2, 3] ?_
 refine V fun _ k2 => ?_
 refine a9 hP hN rfl ?_
 iterate 4 (refine Z rfl fun _ k0 => ?_; simp only [zO, zT, acs, reduceCtorEq, J, D, M, U, O, S]; (repeat refine an ?_); (try refine .inl ?_); apply k0; clear k0; simp only [zP, D])
 refine Z rfl fun _ k0 => ?_
 refine ar (h := ae (pu a1 u.1 (by omega) (by omega))) rfl rfl (by first | exact rfl | (simp only [ev, zP, J, D]; exact rfl)) (by simp only [zV, acs, reduceCtorEq, J, D, M, U, O, S]) ?_
 apply k0; clear k0; simp only [zP, D]
 (refine Z rfl fun _ k0 => ?_; simp only [zO, zT, acs, reduceCtorEq, J, D, M, U, O, S]; (repeat refine an ?_); (try refine .inl ?_); apply k0; clear k0; simp only [zP, D])
 refine aa ?_
 apply k2; clear k2; refine kp [0, 1, 2, 3] ?_
 refine ah ?_
 refine ⟨nr, _, rfl, ?_⟩; simp only [zF, zP, J, D]
 refine VLE.of_eq ?_
 rfl
theorem tW (xs : List TRC) (f : Nat) (caps : List Cap) (p : TRC → Bool) (hcap : caps.all i5 = true) (hf : ∀ k x1 x2, k < xs.length → xs.getD k aQ = (x1, (x2, ())) → aV Tryd.prog f (.agg [.list (.int .i64) x1, .list (.int .i64) x2] :: caps.map bY) (.one (.bool (p (x1, (x2, ())))))) : aV Tryd.prog 103 [.one (.list (.pair (.list (.int .i64)) (.pair (.list (.int .i64)) .unit)) xs), .one (.fn f caps)] (.one (.int .i64 (dS p xs))) := by
 refine aw Tryd.func103 rfl (by kernel_rfl) (Nat.le_of_ble_eq_true rfl) (by simp only [List.all_cons, List.all_nil, fw, gn, gC, hcap, Bool.and_true]) fun C hP hN hB => ?_
 replace hN : C.N = 19 := hN
 simp only [aH, D]
 refine cQ 0 rfl fun hf0 => ?_; simp only [lkp, if_true, if_false, reduceCtorEq, J, eq_self, Nat.one_ne_zero, Nat.zero_ne_one, eP, eN, eB, Fit, and_true, implies_true, true_and] at hf0
 refine V fun _ k1 => ?_
 refine a9 hP hN rfl ?_
 (refine Z rfl fun _ k0 => ?_; simp only [zO, zT, acs, reduceCtorEq, J, D, M, U, O, S]; (repeat refine an ?_); (try refine .inl ?_); apply k0; clear k0; simp only [zP, D])
 refine aa ?_
 apply k1; clear k1; refine kp [0, 1, 4] ?_
 refine V fun _ k2 => ?_
 refine V fun _ k3 => ?_
 refine a9 hP hN rfl ?_
 iterate 3 (refine Z rfl fun _ k0 => ?_; simp only [zO, zT, acs, reduceCtorEq, J, D, M, U, O, S]; (repeat refine an ?_); (try refine .inl ?_); apply k0; clear k0; simp only [zP, D])
 refine aa ?_
 apply k3; clear k3; refine kp [0, 1, 4, 7, 8] ?_
 refine au ?_
 refine aU (fun n4 s4 => ∃ (k : Nat), (k ≤ xs.length) ∧ (∀ q : Nat, q < k → p (xs.getD q aQ) = false) ∧ n4 = xs.length - k ∧ s4 = { env := [(0, .one (.list (.pair (.list (.int .i64)) (.pair (.list (.int .i64)) .unit)) xs)), (1, .one (.fn f caps)), (7, .one (.int .i64 (xs.length : Int))), (8, .one (.int .i64 (k : Int)))], L := [] }) ?_ ?_
 ·exact ⟨_, _, ak [0, 1, 7, 8], 0, Nat.zero_le _, fun i hi => by omega, rfl, rfl⟩
 rintro n4 s4 ⟨k, hk, hq, rfl, rfl⟩
 refine V fun _ k5 => ?_
 refine a9 hP hN rfl ?_
 (refine Z rfl fun _ k0 => ?_; simp only [zO, zT, acs, reduceCtorEq, J, D, M, U, O, S]; (repeat refine an ?_); (try refine .inl ?_); apply k0; clear k0; simp only [zP, D])
 refine aa ?_
 apply k5; clear k5; refine kp [0, 1, 7, 8, 9] ?_
 refine V fun _ k6 => ?_
 refine cd (fun hc7 => ?_) (fun hc7 => ?_)
 ·(try simp only [zB, reduceCtorEq] at hc7)
  refine ag ?_
  apply k6; clear k6; refine kp [0, 1, 7, 8, 9] ?_
  refine V fun _ k8 => ?_
  refine au ?_
  refine V fun _ k9 => ?_
  refine a9 hP hN rfl ?_
  iterate 2 (refine Z rfl fun _ k0 => ?_; simp only [zO, zT, acs, reduceCtorEq, J, D, M, U, O, S]; (repeat refine an ?_); (try refine .inl ?_); apply k0; clear k0; simp only [zP, D])
  refine aa ?_
  apply k9; clear k9; refine kp [0, 1, 5, 7, 8, 9] ?_
  refine V fun _ k10 => ?_
  obtain ⟨x1, x2, hgx⟩ : ∃ x1 x2, ∀ d, xs.getD k d = (x1, (x2, ())) := ⟨_, _, cM (by omega)⟩
  refine a9 hP hN rfl ?_
  iterate 5 (refine Z rfl fun _ k0 => ?_; simp only [zO, zT, acs, reduceCtorEq, J, D, M, U, O, S, gt, af, hgx]; (repeat refine an ?_); (try refine .inl ?_); apply k0; clear k0; simp only [zP, D])
  refine Z rfl fun _ k0 => ?_
  refine ar (h := ae (hf k x1 x2 (by omega) (hgx _))) rfl rfl (by first | exact rfl | (simp only [ev, zP, J, D]; exact rfl)) (by simp only [zV, acs, reduceCtorEq, J, D, M, U, O, S, gt, af, hgx]) ?_
  apply k0; clear k0; simp only [zP, D]
  refine aa ?_
  apply k10; clear k10; refine kp [0, 1, 5, 7, 8, 9, 16] ?_
  refine cd (fun hc11 => ?_) (fun hc11 => ?_)
  ·(try simp only [zB, reduceCtorEq] at hc11)
   have hp := hc11
   refine V fun _ k12 => ?_
   refine a9 hP hN rfl ?_
   iterate 2 (refine Z rfl fun _ k0 => ?_; simp only [zO, zT, acs, reduceCtorEq, J, D, M, U, O, S]; (repeat refine an ?_); (try refine .inl ?_); apply k0; clear k0; simp only [zP, D])
   refine aa ?_
   apply k12; clear k12; refine kp [0, 1, 4, 5, 7, 8, 9, 16] ?_
   refine ah ?_
   refine ⟨nr, _, rfl, ?_⟩; simp only [zF, zP, J, D]
   refine VLE.of_eq ?_
   refine congrArg (fun n => AV.one (AC.int IntKind.i64 n)) ?_
   symm
   first
   | exact ov (by omega) hq (by rw [hgx]; simpa using hp)
   | exact lc fun q hq2 => hq q (by omega)
  (try simp only [zB, reduceCtorEq] at hc11)
  have hp := hc11
  refine ag ?_
  apply k8; clear k8; refine kp [0, 1, 5, 7, 8, 9, 16] ?_
  refine a9 hP hN rfl ?_
  iterate 2 (refine Z rfl fun _ k0 => ?_; simp only [zO, zT, acs, reduceCtorEq, J, D, M, U, O, S]; (repeat refine an ?_); (try refine .inl ?_); apply k0; clear k0; simp only [zP, D])
  refine aa ?_
  refine ⟨_, _, ?_, ak [0, 1, 7, 8], k + 1, by omega, fun q hq2 => ?_, rfl, rfl⟩
  · omega
  · by_cases e : q = k
    · rw [e, hgx]; simpa using hp
    · exact hq q (by omega)
 (try simp only [zB, reduceCtorEq] at hc7)
 refine aR ?_
 apply k2; clear k2; refine kp [0, 1, 7, 8, 9] ?_
 refine V fun _ k13 => ?_
 refine a9 hP hN rfl ?_
 (refine Z rfl fun _ k0 => ?_; simp only [zO, zT, acs, reduceCtorEq, J, D, M, U, O, S]; (repeat refine an ?_); (try refine .inl ?_); apply k0; clear k0; simp only [zP, D])
 refine aa ?_
 apply k13; clear k13; refine kp [0, 1, 4, 7, 8, 9] ?_
 refine ah ?_
 refine ⟨nr, _, rfl, ?_⟩; simp only [zF, zP, J, D]
 refine VLE.of_eq ?_
 refine congrArg (fun n => AV.one (AC.int IntKind.i64 n)) ?_
 symm
 first
 | exact ov (by omega) hq (by rw [hgx]; simpa using hp)
 | exact lc fun q hq2 => hq q (by omega)
set_option maxHeartbeats 1000000 in
theorem tJ (n : Int) (X : List TRC) (v : Nat) (xs : List TRC) (t : TRC) (hl : xs.length ≤ 1000000) (hb : LB 100000 xs) (ht : t.1.length ≤ 100000) : cF Tryd.prog [.vars 47 [.int .i64 n, .list (.pair (.list (.int .i64)) (.pair (.list (.int .i64)) .unit)) X], .vars 47 [.int .i64 0, .nils], .row (.pair (.list (.int .i64)) (.pair (.list (.int .i64)) .unit)) 60 v xs, .vars 60 [.list (.int .i64) t.1, .list (.int .i64) t.2.1]] 92 [.one (.row 2 v), .one (.fn 93 [.pat (.pair (.list (.int .i64)) (.pair (.list (.int .i64)) .unit)) (t.1, (t.2.1, ()))])] { av := .one (.row 2 (dlv v xs t)), upd := [(2, .row (.pair (.list (.int .i64)) (.pair (.list (.int .i64)) .unit)) 60 (dlv v xs t) (dX xs t))], fp := [0, 1, 2, 3] } := by
 refine cS _ _ Tryd.func92 rfl (by kernel_rfl) (Nat.le_of_ble_eq_true rfl) (by intro k hk; simp only [ad, aq, Nat.zero_add, D] at hk; simp only [List.mem_cons, List.not_mem_nil, or_false]; omega) (fun C hP hN hB => ?_)
 replace hB : C.bL.length = 4 := by rw [hB]; rfl
 replace hN : C.N = 42 := hN
 simp only [aH, D]
 refine V fun _ k1 => ?_
 refine a9 hP hN rfl ?_
 (refine Z rfl fun _ k0 => ?_; simp only [zO, zT, acs, reduceCtorEq, J, D, M, U, O, S]; (repeat refine an ?_); (try refine .inl ?_); apply k0; clear k0; simp only [zP, D])
 refine aa ?_
 apply k1; clear k1; refine kp [0, 1, 4] ?_
 refine V fun _ k2 => ?_
 refine a9 hP hN rfl ?_
 iterate 2 (refine Z rfl fun _ k0 => ?_; simp only [zO, zT, acs, reduceCtorEq, J, D, M, U, O, S]; (repeat refine an ?_); (try refine .inl ?_); apply k0; clear k0; simp only [zP, D])
 refine Z rfl fun _ k0 => ?_
 refine ar (h := jS (args := [.one (.row 2 v), .one (.fn 93 [.pat (.pair (.list (.int .i64)) (.pair (.list (.int .i64)) .unit)) (t.1, (t.2.1, ()))])]) (by simp [fzV, fz1, fzC, i5]) rfl (tW xs 93 [.pat (.pair (.list (.int .i64)) (.pair (.list (.int .i64)) .unit)) (t.1, (t.2.1, ()))] (fun u => pfB t.1 u.1) rfl (fun k x1 x2 hk e => qt t.1 t.2.1 (x1, (x2, ())) ht (hb.get hk e).1)) rfl) rfl rfl (by first | exact rfl | (simp only [ev, zP, J, D]; exact rfl)) (by simp only [zV, acs, reduceCtorEq, J, D, M, U, O, S]) ?_
 apply k0; clear k0; simp only [zP, D]
 (refine Z rfl fun _ k0 => ?_; simp only [zO, zT, acs, reduceCtorEq, J, D, M, U, O, S]; (repeat refine an ?_); (try refine .inl ?_); apply k0; clear k0; simp only [zP, D])
 refine aa ?_
 apply k2; clear k2; refine kp [0, 1, 4, 5] ?_
 refine V fun _ k3 => ?_
 refine V fun _ k4 => ?_
 refine a9 hP hN rfl ?_
 iterate 2 (refine Z rfl fun _ k0 => ?_; simp only [zO, zT, acs, reduceCtorEq, J, D, M, U, O, S]; (repeat refine an ?_); (try refine .inl ?_); apply k0; clear k0; simp only [zP, D])
 refine aa ?_
 apply k4; clear k4; refine kp [0, 1, 4, 5, 12] ?_
 refine cd (fun hc5 => ?_) (fun hc5 => ?_)
 ·(try simp only [zB, reduceCtorEq] at hc5)
  have hno : dS (fun u => pfB t.1 u.1) xs = -1 := hc5
  obtain ⟨e1, e2⟩ := uF (v := v) hno
  refine V fun _ k6 => ?_
  refine a9 hP hN rfl ?_
  iterate 2 (refine Z rfl fun _ k0 => ?_; simp only [zO, zT, acs, reduceCtorEq, J, D, M, U, O, S]; (repeat refine an ?_); (try refine .inl ?_); apply k0; clear k0; simp only [zP, D])
  refine aa ?_
  apply k6; clear k6; refine kp [0, 1, 4, 5, 12] ?_
  refine ah ?_
  refine ⟨by first | exact .inl rfl | exact .inr rfl, _, rfl, ?_⟩; simp only [zP, J, D]
  first
  | (rw [e1, e2]; first | exact ⟨rfl, rfl⟩ | rfl)
  | (rw [e1, show dX xs t = R.take i from hKe.symm, hil]; first | exact ⟨rfl, rfl⟩ | rfl)
 (try simp only [zB, reduceCtorEq] at hc5)
 have hyes : ¬ dS (fun u => pfB t.1 u.1) xs = -1 := hc5
 have e1 := tH (v := v) hyes
 obtain ⟨i0, hi0⟩ : ∃ i0 : Nat, dS (fun u => pfB t.1 u.1) xs = (i0 : Int) := by
   rcases i7 (fun u => pfB t.1 u.1) xs with ⟨k, e, _⟩ | ⟨e, _⟩
   · exact ⟨k, e⟩
   · exact absurd e hyes
 have k0 := KEP.start hi0
 have hi0l := k0.jl
 rw [hi0]
 refine ag ?_
 apply k3; clear k3; refine kp [0, 1, 4, 5, 12] ?_
 refine V fun _ k7 => ?_
 refine V fun _ k8 => ?_
 refine a9 hP hN rfl ?_
 iterate 3 (refine Z rfl fun _ k0 => ?_; simp only [zO, zT, acs, reduceCtorEq, J, D, M, U, O, S]; (repeat refine an ?_); (try refine .inl ?_); apply k0; clear k0; simp only [zP, D])
 refine aa ?_
 apply k8; clear k8; refine kp [0, 1, 4, 5, 6, 12] ?_
 refine au ?_
 refine aU (fun n9 s9 => ∃ (i j : Nat) (R : List TRC), (KEP (fun u => pfB t.1 u.1) xs R i j) ∧ n9 = xs.length - j ∧ s9 = { env := [(0, .one (.row 2 v)), (1, .one (.fn 93 [.pat (.pair (.list (.int .i64)) (.pair (.list (.int .i64)) .unit)) (t.1, (t.2.1, ()))])), (4, .one .nils), (5, .one (.int .i64 (i : Int))), (6, .one (.int .i64 (j : Int)))], L := [.vars 47 [.int .i64 n, .list (.pair (.list (.int .i64)) (.pair (.list (.int .i64)) .unit)) X], .vars 47 [.int .i64 0, .nils], .row (.pair (.list (.int .i64)) (.pair (.list (.int .i64)) .unit)) 60 v R, .vars 60 [.list (.int .i64) t.1, .list (.int .i64) t.2.1]] }) ?_ ?_
 ·exact ⟨_, _, ak [0, 1, 4, 5, 6], i0, i0 + 1, xs, k0, rfl, rfl⟩
 rintro n9 s9 ⟨i, j, R, hK, rfl, rfl⟩
 refine V fun _ k10 => ?_
 refine V fun _ k11 => ?_
 refine a9 hP hN rfl ?_
 iterate 4 (refine Z rfl fun _ k0 => ?_; simp only [zO, zT, acs, reduceCtorEq, J, D, M, U, O, S]; (repeat refine an ?_); (try refine .inl ?_); apply k0; clear k0; simp only [zP, D])
 refine aa ?_
 apply k11; clear k11; refine kp [0, 1, 4, 5, 6, 19] ?_
 refine cd (fun hc12 => ?_) (fun hc12 => ?_)
 ·(try simp only [zB, reduceCtorEq] at hc12)
  refine ag ?_
  apply k10; clear k10; refine kp [0, 1, 4, 5, 6, 19] ?_
  refine V fun _ k13 => ?_
  refine au ?_
  refine V fun _ k14 => ?_
  have hij := hK.ij; have hRl := hK.l
  obtain ⟨x1, x2, hgx⟩ : ∃ x1 x2, ∀ d, R.getD j d = (x1, (x2, ())) := ⟨_, _, cM (by omega)⟩
  have hxe : xs.getD j aQ = (x1, (x2, ())) := (hK.at_ (by omega)).symm.trans (hgx _)
  refine a9 hP hN rfl ?_
  iterate 6 (refine Z rfl fun _ k0 => ?_; simp only [zO, zT, acs, reduceCtorEq, J, D, M, U, O, S, gt, af, hgx]; (repeat refine an ?_); (try refine .inl ?_); apply k0; clear k0; simp only [zP, D])
  refine aa ?_
  apply k14; clear k14; refine kp [0, 1, 4, 5, 6, 7, 19] ?_
  refine V fun _ k15 => ?_
  refine a9 hP hN rfl ?_
  iterate 2 (refine Z rfl fun _ k0 => ?_; simp only [zO, zT, acs, reduceCtorEq, J, D, M, U, O, S, hgx]; (repeat refine an ?_); (try refine .inl ?_); apply k0; clear k0; simp only [zP, D])
  refine Z rfl fun _ k0 => ?_
  refine ar (h := ae (qt t.1 t.2.1 (x1, (x2, ())) ht (hb.get (k := j) (by omega) hxe).1)) rfl rfl (by first | exact rfl | (simp only [ev, zP, J, D]; exact rfl)) (by simp only [zV, acs, reduceCtorEq, J, D, M, U, O, S, hgx]) ?_
  apply k0; clear k0; simp only [zP, D]
  (refine Z rfl fun _ k0 => ?_; simp only [zO, zT, acs, reduceCtorEq, J, D, M, U, O, S, hgx]; (repeat refine an ?_); (try refine .inl ?_); apply k0; clear k0; simp only [zP, D])
  refine aa ?_
  apply k15; clear k15; refine kp [0, 1, 4, 5, 6, 7, 19, 29] ?_
  refine cd (fun hc16 => ?_) (fun hc16 => ?_)
  ·(try simp only [zB, reduceCtorEq] at hc16)
   have hpf : pfB t.1 x1 = false := by simpa using hc16
   have k2 := hK.yes (by omega) (by rw [hxe]; exact hpf)
   refine V fun _ k17 => ?_
   refine a9 hP hN rfl ?_
   iterate 5 (refine Z rfl fun _ k0 => ?_; simp only [zO, zT, acs, reduceCtorEq, J, D, M, U, O, S, gt, af, hgx]; (repeat refine an ?_); (try refine .inl ?_); apply k0; clear k0; simp only [zP, D])
   refine aa ?_
   apply k17; clear k17; refine kp [0, 1, 4, 5, 6, 7, 19, 29] ?_
   refine a9 hP hN rfl ?_
   iterate 3 (refine Z rfl fun _ k0 => ?_; simp only [zO, zT, acs, reduceCtorEq, J, D, M, U, O, S]; (repeat refine an ?_); (try refine .inl ?_); apply k0; clear k0; simp only [zP, D])
   refine aa ?_
   apply k13; clear k13; refine kp [0, 1, 4, 5, 6, 7, 19, 29] ?_
   refine kp [0, 1, 4, 5, 6] ?_
   refine aC (L1 := [_, _, _, _]) rfl (by rw [hB]; exact Nat.le_refl _) rfl rfl ?_
   refine a9 hP hN rfl ?_
   iterate 3 (refine Z rfl fun _ k0 => ?_; simp only [zO, zT, acs, reduceCtorEq, J, D, M, U, O, S]; (repeat refine an ?_); (try refine .inl ?_); apply k0; clear k0; simp only [zP, D])
   refine aa ?_
   first
   | (refine ⟨_, _, ?_, ak [0, 1, 4, 5, 6], i + 1, j + 1, R.set i (xs.getD j aQ), k2, rfl, by rw [hxe]; rfl⟩
      omega)
   | (refine ⟨_, _, ?_, ak [0, 1, 4, 5, 6], i, j + 1, R, k2, rfl, rfl⟩
      omega)
  (try simp only [zB, reduceCtorEq] at hc16)
  have hpt : pfB t.1 x1 = true := by simpa using hc16
  have k2 := hK.no (by omega) (by rw [hxe]; exact hpt)
  refine ag ?_
  apply k13; clear k13; refine kp [0, 1, 4, 5, 6, 7, 19, 29] ?_
  refine kp [0, 1, 4, 5, 6] ?_
  refine aC (L1 := [_, _, _, _]) rfl (by rw [hB]; exact Nat.le_refl _) rfl rfl ?_
  refine a9 hP hN rfl ?_
  iterate 3 (refine Z rfl fun _ k0 => ?_; simp only [zO, zT, acs, reduceCtorEq, J, D, M, U, O, S]; (repeat refine an ?_); (try refine .inl ?_); apply k0; clear k0; simp only [zP, D])
  refine aa ?_
  first
  | (refine ⟨_, _, ?_, ak [0, 1, 4, 5, 6], i + 1, j + 1, R.set i (xs.getD j aQ), k2, rfl, by rw [hxe]; rfl⟩
     omega)
  | (refine ⟨_, _, ?_, ak [0, 1, 4, 5, 6], i, j + 1, R, k2, rfl, rfl⟩
     omega)
 (try simp only [zB, reduceCtorEq] at hc12)
 refine aR ?_
 apply k7; clear k7; refine kp [0, 1, 4, 5, 6, 19] ?_
 refine V fun _ k18 => ?_
 have hRl := hK.l; have hij := hK.ij; have hjl := hK.jl
 have hjx : j = xs.length := by omega
 have hKe := hK.end_ hjx
 refine tn hP hN rfl rfl rfl rfl rfl rfl rfl rfl rfl rfl rfl rfl (by decide) rfl rfl rfl (by omega) ⟨rfl, rfl, rfl⟩ ?_
 simp only [zP, D]
 apply k18; clear k18; refine kp [0, 1, 4, 5, 6, 19] ?_
 refine V fun _ k19 => ?_
 have hil : (R.take i ++ List.replicate (R.length - i) (([], ([], ())) : TRC)).take i = R.take i := by rw [List.take_append_of_le_length (by rw [List.length_take]; omega), List.take_take, Nat.min_self]
 have hi2 : i ≤ (R.take i ++ List.replicate (R.length - i) (([], ([], ())) : TRC)).length := by simp; omega
 refine a9 hP hN rfl ?_
 iterate 2 (refine Z rfl fun _ k0 => ?_; simp only [zO, zT, acs, reduceCtorEq, J, D, M, U, O, S, af]; (repeat refine an ?_); (try refine .inl ?_); apply k0; clear k0; simp only [zP, D])
 (refine Z rfl fun _ k0 => ?_; simp only [zE, op1, ev, lkp, ch, bg, bT, bnd, Ty.size, reduceCtorEq, J, D, M, U, O, S, Tryd.el27, Tryd.td27, Tryd.td3, af]; (repeat refine an ?_); (try refine .inl ?_); apply k0; clear k0; simp only [zP, D])
 (refine Z rfl fun _ k0 => ?_; simp only [zO, zT, acs, reduceCtorEq, J, D, M, U, O, S, af]; (repeat refine an ?_); (try refine .inl ?_); apply k0; clear k0; simp only [zP, D])
 refine aa ?_
 apply k19; clear k19; refine kp [0, 1, 4, 5, 6, 19] ?_
 refine ah ?_
 refine ⟨by first | exact .inl rfl | exact .inr rfl, _, rfl, ?_⟩; simp only [zP, J, D]
 first
 | (rw [e1, e2]; first | exact ⟨rfl, rfl⟩ | rfl)
 | (rw [e1, show dX xs t = R.take i from hKe.symm, hil]; first | exact ⟨rfl, rfl⟩ | rfl)
theorem ll (a b : TRC) (ha : a.1.length ≤ 100000) (hb : b.1.length ≤ 100000) (ha2 : a.2.1.length ≤ 100000) (hb2 : b.2.1.length ≤ 100000) : aV Tryd.prog 90 [.agg [.list (.int .i64) a.1, .list (.int .i64) a.2.1], .agg [.list (.int .i64) b.1, .list (.int .i64) b.2.1]] (.one (.int .i64 (dfO a b))) := by
 refine aw Tryd.func90 rfl (by kernel_rfl) (Nat.le_of_ble_eq_true rfl) rfl fun C hP hN hB => ?_
 replace hN : C.N = 32 := hN
 simp only [aH, D]
 obtain ⟨n, hn⟩ : ∃ n, n = dfN a b := ⟨_, rfl⟩
 have hnm : min (min (cmn a.1 b.1 : Int) (a.2.1.length : Int)) (b.2.1.length : Int) = (n : Int) := by unfold dfN at hn; omega
 refine V fun _ k1 => ?_
 refine a9 hP hN rfl ?_
 iterate 3 (refine Z rfl fun _ k0 => ?_; simp only [zO, zT, acs, reduceCtorEq, J, D, M, U, O, S]; (repeat refine an ?_); (try refine .inl ?_); apply k0; clear k0; simp only [zP, D])
 refine aa ?_
 apply k1; clear k1; refine kp [0, 1, 2, 3, 4] ?_
 refine V fun _ k2 => ?_
 refine bS hP hN Tryd.mixed rfl ?_
 iterate 4 (refine Z rfl fun _ k0 => ?_; simp only [zO, zT, acs, reduceCtorEq, J, D, M, U, O, S, hnm]; (repeat refine an ?_); (try refine .inl ?_); apply k0; clear k0; simp only [zP, D])
 refine Z rfl fun _ k0 => ?_
 refine ar (h := ae (oX a.1 b.1 (by omega) (by omega))) rfl rfl (by first | exact rfl | (simp only [ev, zP, J, D]; exact rfl)) (by simp only [zV, acs, reduceCtorEq, J, D, M, U, O, S, hnm]) ?_
 apply k0; clear k0; simp only [zP, D]
 iterate 6 (refine Z rfl fun _ k0 => ?_; simp only [zO, zT, acs, reduceCtorEq, J, D, M, U, O, S, hnm]; (repeat refine an ?_); (try refine .inl ?_); apply k0; clear k0; simp only [zP, D])
 refine oF (fun C9 hC9 => .inl ⟨rfl, pJ rfl rfl rfl rfl⟩) ?_; simp only [zP, D]
 (refine Z rfl fun _ k0 => ?_; simp only [zO, zT, acs, reduceCtorEq, J, D, M, U, O, S, hnm]; (repeat refine an ?_); (try refine .inl ?_); apply k0; clear k0; simp only [zP, D])
 refine aa ?_
 refine ⟨by kernel_rfl, ?_⟩
 apply k2; clear k2; refine kp [0, 1, 2, 3, 4, 5] ?_
 refine V fun _ k3 => ?_
 refine V fun _ k4 => ?_
 refine bS hP hN Tryd.mixed rfl ?_
 iterate 3 (refine Z rfl fun _ k0 => ?_; simp only [zO, zT, acs, reduceCtorEq, J, D, M, U, O, S, hnm, af, Int.toNat_zero, List.drop_zero]; (repeat refine an ?_); (try refine .inl ?_); apply k0; clear k0; simp only [zP, D])
 (refine Z rfl fun _ k0 => ?_; simp only [zE, op1, ev, lkp, ch, bg, cu, er, Nat.mul_one, bE, cK, acs, Ty.dflt, zG, ca, bT, bnd, Ty.size, reduceCtorEq, J, D, M, U, O, S, Tryd.el43, Tryd.st60, Tryd.td1, Tryd.td3, Tryd.td43, Tryd.td60, hnm, af, Int.toNat_zero, List.drop_zero]; (repeat refine an ?_); (try refine .inl ?_); apply k0; clear k0; simp only [zP, D])
 iterate 3 (refine Z rfl fun _ k0 => ?_; simp only [zO, zT, acs, reduceCtorEq, J, D, M, U, O, S, hnm, af, Int.toNat_zero, List.drop_zero]; (repeat refine an ?_); (try refine .inl ?_); apply k0; clear k0; simp only [zP, D])
 (refine Z rfl fun _ k0 => ?_; simp only [zE, op1, ev, lkp, ch, bg, cu, er, Nat.mul_one, bE, cK, acs, Ty.dflt, zG, ca, bT, bnd, Ty.size, reduceCtorEq, J, D, M, U, O, S, Tryd.el43, Tryd.st60, Tryd.td1, Tryd.td3, Tryd.td43, Tryd.td60, hnm, af, Int.toNat_zero, List.drop_zero]; (repeat refine an ?_); (try refine .inl ?_); apply k0; clear k0; simp only [zP, D])
 refine Z rfl fun _ k0 => ?_
 refine ar (h := ae (oX (a.2.1.take n) (b.2.1.take n) (by rw [List.length_take]; omega) (by rw [List.length_take]; omega))) rfl rfl (by first | exact rfl | (simp only [ev, zP, J, D]; exact rfl)) (by simp only [zV, acs, reduceCtorEq, J, D, M, U, O, S, hnm, af, Int.toNat_zero, List.drop_zero]) ?_
 apply k0; clear k0; simp only [zP, D]
 (refine Z rfl fun _ k0 => ?_; simp only [zO, zT, acs, reduceCtorEq, J, D, M, U, O, S, hnm, af, Int.toNat_zero, List.drop_zero]; (repeat refine an ?_); (try refine .inl ?_); apply k0; clear k0; simp only [zP, D])
 refine aa ?_
 refine ⟨by kernel_rfl, ?_⟩
 apply k4; clear k4; refine kp [0, 1, 2, 3, 4, 5, 6] ?_
 refine V fun _ k5 => ?_
 refine a9 hP hN rfl ?_
 iterate 3 (refine Z rfl fun _ k0 => ?_; simp only [zO, zT, acs, reduceCtorEq, J, D, M, U, O, S]; (repeat refine an ?_); (try refine .inl ?_); apply k0; clear k0; simp only [zP, D])
 refine aa ?_
 apply k5; clear k5; refine kp [0, 1, 2, 3, 4, 5, 6, 30] ?_
 refine cd (fun hc6 => ?_) (fun hc6 => ?_)
 ·(try simp only [zB, reduceCtorEq] at hc6)
  have hlt := hc6
  refine V fun _ k7 => ?_
  refine a9 hP hN rfl ?_
  iterate 2 (refine Z rfl fun _ k0 => ?_; simp only [zO, zT, acs, reduceCtorEq, J, D, M, U, O, S]; (repeat refine an ?_); (try refine .inl ?_); apply k0; clear k0; simp only [zP, D])
  refine aa ?_
  apply k7; clear k7; refine kp [0, 1, 2, 3, 4, 5, 6, 30] ?_
  refine ah ?_
  refine ⟨nr, _, rfl, ?_⟩; simp only [zF, zP, J, D]
  refine VLE.of_eq ?_
  refine congrArg (fun n => AV.one (AC.int IntKind.i64 n)) ?_
  unfold dfO
  rw [← hn]
  first
  | (rw [if_pos (by omega)]; done)
  | (rw [if_neg (by omega)]; done)
 (try simp only [zB, reduceCtorEq] at hc6)
 have hge := hc6
 refine ag ?_
 apply k3; clear k3; refine kp [0, 1, 2, 3, 4, 5, 6, 30] ?_
 refine V fun _ k8 => ?_
 refine a9 hP hN rfl ?_
 (refine Z rfl fun _ k0 => ?_; simp only [zO, zT, acs, reduceCtorEq, J, D, M, U, O, S]; (repeat refine an ?_); (try refine .inl ?_); apply k0; clear k0; simp only [zP, D])
 refine aa ?_
 apply k8; clear k8; refine kp [0, 1, 2, 3, 4, 5, 6, 30] ?_
 refine ah ?_
 refine ⟨nr, _, rfl, ?_⟩; simp only [zF, zP, J, D]
 refine VLE.of_eq ?_
 refine congrArg (fun n => AV.one (AC.int IntKind.i64 n)) ?_
 unfold dfO
 rw [← hn]
 first
 | (rw [if_pos (by omega)]; done)
 | (rw [if_neg (by omega)]; done)
end Go.Proofs.YtfakhaagbimljaaDoor
